/- Messages: urgency. -/
import Derived.Test.YtnnlaccdendkpaaURa
import Derived.Test.YtnnlaccdendkpaaUB7
import Derived.Test.YtnnlaccdendkpaaUNm
namespace Go.Proofs.Ytnnlaccdendkpaa
open Go Go.Av Go.Hh Go.Proofs
set_option maxRecDepth 100000
set_option maxHeartbeats 4000000
def findM (h : Home) (k : KeyV) : Attr × Bool :=
 (bif ((!((devFindM h k.dev).2) || decide (nIndexM (((devFindM h k.dev).1).clusters) k.cluster < 0)) || !((attrM ((mget (clustersM h) k.cluster).getD (⟨⟨#[]⟩, [], [], []⟩ : Cluster)) k.attr).2)) then ((⟨⟨#[]⟩, 0, 0, 0, [], false, false⟩ : Attr), false) else (((attrM ((mget (clustersM h) k.cluster).getD (⟨⟨#[]⟩, [], [], []⟩ : Cluster)) k.attr).1), true))
abbrev findM_c1 : Nat × AObj := (2, .box 48 [vs (⟨#[]⟩), vi 0, vi 0, vi 0, .rv (.v (.slice none 0 0)), vb false, vb false])
abbrev findM_c2 : Nat × AObj := (4, .box 48 [vs (⟨#[]⟩), vi 0, vi 0, vi 0, .rv (.v (.slice none 0 0)), vb false, vb false])
abbrev findM_c3 (k : KeyV) : Nat × AObj := (1, .box 51 (avs (KeyV.cells k)))
abbrev findM_c4 (h : Home) (k : KeyV) : Nat × AV := (32, .agg (avs (Cluster.cells ((mget (clustersM h) k.cluster).getD (⟨⟨#[]⟩, [], [], []⟩ : Cluster)))))
abbrev findM_c5 (h : Home) : Nat × AObj := (0, .box 40 (avs (Home.cells h)))
abbrev findM_c6 (h : Home) (k : KeyV) : Nat × AV := (36, .agg (avs (Attr.cells ((attrM ((mget (clustersM h) k.cluster).getD (⟨⟨#[]⟩, [], [], []⟩ : Cluster)) k.attr).1))))
abbrev findM_c7 (h : Home) : Nat × AV := (29, .rv (mapM true kS Cluster.cells (clustersM h)))
abbrev findM_c8 (h : Home) (k : KeyV) : Nat × AObj := (4, .box 48 (avs (Attr.cells ((attrM ((mget (clustersM h) k.cluster).getD (⟨⟨#[]⟩, [], [], []⟩ : Cluster)) k.attr).1))))
abbrev findM_c9 (h : Home) : Nat × AV := (28, .agg (avs (Home.cells h)))
theorem findM_ok (h : Home) (k : KeyV) :
 ACalls Try.prog G_ 81 [.agg (avs (Home.cells h)), .agg (avs (KeyV.cells k))] [] 0 (fun r τ => r = .tuple [.agg (avs (Attr.cells ((findM h k).1))), vb ((findM h k).2)] ∧ τ = []) := by
 refine ACalls.body Try.func81 rfl 42 [(0, .agg (avs (Home.cells h))), (1, .agg (avs (KeyV.cells k)))] ?_
 refine AWp.hz [.run 4] 42 [(2, .ptr 0 0), (3, .ptr 1 0), (4, .ptr 2 0)] [findM_c1, (findM_c3 k), (findM_c5 h)] 3 ?_
 refine AWp.hz [.run 3, .call 79 [.agg (avs (Home.cells h)), vi k.dev] (.tuple [.agg (avs (Dev.cells ((devFindM h k.dev).1))), vb ((devFindM h k.dev).2)]) [] 0 (devFindM_ok h k.dev), .run 6] 42 [(2, .ptr 0 0), (3, .ptr 1 0), (4, .ptr 2 0), (6, .ptr 3 0), (7, vb ((devFindM h k.dev).2))] [(3, .box 60 (avs (Dev.cells ((devFindM h k.dev).1)))), findM_c1, (findM_c3 k), (findM_c5 h)] 4 ?_
 refine AWp.seq ?_
 refine AWp.join (Z 42 [(2, .ptr 0 0), (3, .ptr 1 0), (4, .ptr 2 0), (25, vb (!((devFindM h k.dev).2) || decide (nIndexM (((devFindM h k.dev).1).clusters) k.cluster < 0)))] [(2, .box 48 [vs (⟨#[]⟩), vi 0, vi 0, vi 0, .rv (.v (.slice none 0 0)), vb false, vb false]), (1, .box 51 (avs (KeyV.cells k))), (0, .box 40 (avs (Home.cells h)))] 4) ?_ ?_
 ·
  refine AWp.region ?_
  refine AOps.hg [.run 3] (!((devFindM h k.dev).2)) 42 (fun b_ => [(2, .ptr 0 0), (3, .ptr 1 0), (4, .ptr 2 0), (6, .ptr 3 0), (18, vb b_)]) [(3, .box 60 (avs (Dev.cells ((devFindM h k.dev).1)))), findM_c1, (findM_c3 k), (findM_c5 h)] 4 (fun hg1 => ?_) (fun hg1 => ?_)
  ·
   refine AOps.he [.run 7] 42 [(2, .ptr 0 0), (3, .ptr 1 0), (4, .ptr 2 0), (25, vb true)] [findM_c1, (findM_c3 k), (findM_c5 h)] 4 ?_
   exact leZ (by rw [hg1]; try kernel_rfl)
  ·
   refine AOps.he [.run 4, .call 84 [.rv (.sl 1 ((((devFindM h k.dev).1).clusters).map strC)), vs k.cluster] (vi (nIndexM (((devFindM h k.dev).1).clusters) k.cluster)) [] 0 (nIndexM_ok (((devFindM h k.dev).1).clusters) k.cluster), .run 2] 42 [(2, .ptr 0 0), (3, .ptr 1 0), (4, .ptr 2 0), (25, vb (decide (nIndexM (((devFindM h k.dev).1).clusters) k.cluster < 0)))] [findM_c1, (findM_c3 k), (findM_c5 h)] 4 ?_
   exact leZ (by rw [hg1]; try kernel_rfl)
 ·
  refine AWp.cnd ((!((devFindM h k.dev).2) || decide (nIndexM (((devFindM h k.dev).1).clusters) k.cluster < 0))) (fun h2 => ?_) (fun h2 => ?_)
  ·
   refine AWp.hz [.run 3] 42 [(4, .ptr 2 0), (5, vb false)] [findM_c1] 4 ?_
   refine AWp.le (Le.nilsB (s' := Z 42 [(4, .ptr 2 0), (5, vb false)] [(2, .box 48 [vs (⟨#[]⟩), vi 0, vi 0, vi 0, .rv (.sl 1 (([]).map strC)), vb false, vb false])] 4) 2 [none, none, none, none, some 1, none, none] (by kernel_rfl)) ?_
   refine AWp.ret ?_
   exact leafR (r := .tuple [.agg [vs (⟨#[]⟩), vi 0, vi 0, vi 0, .rv (.sl 1 (([]).map strC)), vb false, vb false], vb false]) (by show (.tuple [.agg [vs (⟨#[]⟩), vi 0, vi 0, vi 0, .rv (.sl 1 (([]).map strC)), vb false, vb false], vb false] : AV) = .tuple [.agg (avs (Attr.cells ((findM h k).1))), vb ((findM h k).2)]; unfold findM; (try rw [h2]); try kernel_rfl)
  ·
   have h2l := or_fl h2
   have h2r := or_fr h2
   have h2r' := of_decide_eq_false h2r
   refine AWp.skip ?_
   refine AWp.seq ?_
   refine AWp.cut (fuel := 0) (m := [true, true, true, true, true, true, true, true, true, true, true, true, true, true]) (s := Z 42 [(4, .ptr 2 0), (7, vb ((attrM ((mget (clustersM h) k.cluster).getD (⟨⟨#[]⟩, [], [], []⟩ : Cluster)) k.attr).2)), (8, .ptr 4 0)] [findM_c1, (findM_c8 h k)] 5) (AD.done ?_) (fun hd3 => ?_)
   ·
    refine AWp.seq ?_
    refine AWp.hz [.run 2] 42 [(4, .ptr 2 0), (8, .ptr 4 0), (39, vb (!((attrM ((mget (clustersM h) k.cluster).getD (⟨⟨#[]⟩, [], [], []⟩ : Cluster)) k.attr).2)))] [findM_c1, (findM_c8 h k)] 5 ?_
    refine AWp.cnd (!((attrM ((mget (clustersM h) k.cluster).getD (⟨⟨#[]⟩, [], [], []⟩ : Cluster)) k.attr).2)) (fun h4 => ?_) (fun h4 => ?_)
    ·
     refine AWp.hz [.run 3] 42 [(4, .ptr 2 0), (5, vb false)] [findM_c1] 5 ?_
     refine AWp.le (Le.nilsB (s' := Z 42 [(4, .ptr 2 0), (5, vb false)] [(2, .box 48 [vs (⟨#[]⟩), vi 0, vi 0, vi 0, .rv (.sl 1 (([]).map strC)), vb false, vb false])] 5) 2 [none, none, none, none, some 1, none, none] (by kernel_rfl)) ?_
     refine AWp.ret ?_
     exact leafR (r := .tuple [.agg [vs (⟨#[]⟩), vi 0, vi 0, vi 0, .rv (.sl 1 (([]).map strC)), vb false, vb false], vb false]) (by show (.tuple [.agg [vs (⟨#[]⟩), vi 0, vi 0, vi 0, .rv (.sl 1 (([]).map strC)), vb false, vb false], vb false] : AV) = .tuple [.agg (avs (Attr.cells ((findM h k).1))), vb ((findM h k).2)]; unfold findM; (try rw [h2]); (try rw [h4]); try kernel_rfl)
    ·
     refine AWp.skip ?_
     refine AWp.hz [.run 3] 42 [(4, .ptr 2 0), (5, vb true)] [(2, .box 48 (avs (Attr.cells ((attrM ((mget (clustersM h) k.cluster).getD (⟨⟨#[]⟩, [], [], []⟩ : Cluster)) k.attr).1))))] 5 ?_
     refine AWp.ret ?_
     exact leafR (r := .tuple [.agg (avs (Attr.cells ((attrM ((mget (clustersM h) k.cluster).getD (⟨⟨#[]⟩, [], [], []⟩ : Cluster)) k.attr).1))), vb true]) (by show (.tuple [.agg (avs (Attr.cells ((attrM ((mget (clustersM h) k.cluster).getD (⟨⟨#[]⟩, [], [], []⟩ : Cluster)) k.attr).1))), vb true] : AV) = .tuple [.agg (avs (Attr.cells ((findM h k).1))), vb ((findM h k).2)]; unfold findM; (try rw [h2]); (try rw [h4]); try kernel_rfl)
   refine AWp.cut (fuel := 1) (m := [true, true, true, true, true, true, true, true, true, true, true, true, true, false]) (s := Z 42 [(4, .ptr 2 0), (8, .ptr 4 0), (37, vb ((attrM ((mget (clustersM h) k.cluster).getD (⟨⟨#[]⟩, [], [], []⟩ : Cluster)) k.attr).2))] [findM_c1, (findM_c8 h k)] 5) (AD.tk 13 _ _ _ _ hd3) (fun hd5 => ?_)
   refine AWp.cut (fuel := 2) (m := [true, true, true, true, true, true, true, true, true, true, true, true, false, false]) (s := Z 42 [(4, .ptr 2 0), (8, .ptr 4 0), (findM_c6 h k), (37, vb ((attrM ((mget (clustersM h) k.cluster).getD (⟨⟨#[]⟩, [], [], []⟩ : Cluster)) k.attr).2))] [findM_c1, findM_c2] 5) (AD.step 12 [] (ADs.cons _ rfl (AOps.he [.run 1] _ _ _ _ ⟨rfl, rfl⟩) hd5 (ADs.nil))) (fun hd6 => ?_)
   refine AWp.cut (fuel := 3) (m := [true, true, true, true, true, true, true, true, true, true, true, false, false, false]) (s := Z 42 [(4, .ptr 2 0), (findM_c6 h k), (37, vb ((attrM ((mget (clustersM h) k.cluster).getD (⟨⟨#[]⟩, [], [], []⟩ : Cluster)) k.attr).2))] [findM_c1] 4) (AD.step 11 [] (ADs.cons _ rfl (AOps.he [.run 1] _ _ _ _ ⟨rfl, rfl⟩) hd6 (ADs.nil))) (fun hd7 => ?_)
   refine AWp.cut (fuel := 3) (m := [true, true, true, true, true, true, true, true, true, true, false, true, false, false]) (s := Z 42 [(4, .ptr 2 0), (8, .ptr 4 0), (27, .tuple [.agg (avs (Attr.cells ((attrM ((mget (clustersM h) k.cluster).getD (⟨⟨#[]⟩, [], [], []⟩ : Cluster)) k.attr).1))), vb ((attrM ((mget (clustersM h) k.cluster).getD (⟨⟨#[]⟩, [], [], []⟩ : Cluster)) k.attr).2)]), (findM_c6 h k)] [findM_c1, findM_c2] 5) (AD.tkV 10 _ _ _ _ hd6) (fun hd8 => ?_)
   refine AWp.cut (fuel := 4) (m := [true, true, true, true, true, true, true, true, true, true, false, false, false, false]) (s := Z 42 [(4, .ptr 2 0), (27, .tuple [.agg (avs (Attr.cells ((attrM ((mget (clustersM h) k.cluster).getD (⟨⟨#[]⟩, [], [], []⟩ : Cluster)) k.attr).1))), vb ((attrM ((mget (clustersM h) k.cluster).getD (⟨⟨#[]⟩, [], [], []⟩ : Cluster)) k.attr).2)]), (findM_c6 h k)] [findM_c1] 4) (AD.tkV 10 _ _ _ _ hd7) (fun hd9 => ?_)
   refine AWp.cut (fuel := 4) (m := [true, true, true, true, true, true, true, true, true, false, false, true, false, false]) (s := Z 42 [(4, .ptr 2 0), (8, .ptr 4 0), (27, .tuple [.agg (avs (Attr.cells ((attrM ((mget (clustersM h) k.cluster).getD (⟨⟨#[]⟩, [], [], []⟩ : Cluster)) k.attr).1))), vb ((attrM ((mget (clustersM h) k.cluster).getD (⟨⟨#[]⟩, [], [], []⟩ : Cluster)) k.attr).2)])] [findM_c1, findM_c2] 5) (AD.tkV 9 _ _ _ _ hd8) (fun hd10 => ?_)
   refine AWp.cut (fuel := 5) (m := [true, true, true, true, true, true, true, true, true, false, false, false, false, false]) (s := Z 42 [(4, .ptr 2 0), (27, .tuple [.agg (avs (Attr.cells ((attrM ((mget (clustersM h) k.cluster).getD (⟨⟨#[]⟩, [], [], []⟩ : Cluster)) k.attr).1))), vb ((attrM ((mget (clustersM h) k.cluster).getD (⟨⟨#[]⟩, [], [], []⟩ : Cluster)) k.attr).2)])] [findM_c1] 4) (AD.tkV 9 _ _ _ _ hd9) (fun hd11 => ?_)
   refine AWp.cut (fuel := 5) (m := [true, true, true, true, true, true, true, true, false, false, false, true, false, false]) (s := Z 42 [(4, .ptr 2 0), (8, .ptr 4 0), (35, .tuple [.agg (avs (Attr.cells ((attrM ((mget (clustersM h) k.cluster).getD (⟨⟨#[]⟩, [], [], []⟩ : Cluster)) k.attr).1))), vb ((attrM ((mget (clustersM h) k.cluster).getD (⟨⟨#[]⟩, [], [], []⟩ : Cluster)) k.attr).2)])] [findM_c1, findM_c2] 5) (AD.tk 8 _ _ _ _ hd10) (fun hd12 => ?_)
   refine AWp.cut (fuel := 6) (m := [true, true, true, true, true, true, true, true, false, false, false, false, false, false]) (s := Z 42 [(4, .ptr 2 0), (35, .tuple [.agg (avs (Attr.cells ((attrM ((mget (clustersM h) k.cluster).getD (⟨⟨#[]⟩, [], [], []⟩ : Cluster)) k.attr).1))), vb ((attrM ((mget (clustersM h) k.cluster).getD (⟨⟨#[]⟩, [], [], []⟩ : Cluster)) k.attr).2)])] [findM_c1] 4) (AD.tk 8 _ _ _ _ hd11) (fun hd13 => ?_)
   refine AWp.cut (fuel := 6) (m := [true, true, true, true, true, true, true, false, false, false, false, true, false, false]) (s := Z 42 [(4, .ptr 2 0), (8, .ptr 4 0), (findM_c4 h k), (34, vs k.attr)] [findM_c1, findM_c2] 5) (AD.step 7 [] (ADs.cons _ rfl (AOps.he [.call 85 [.agg (avs (Cluster.cells ((mget (clustersM h) k.cluster).getD (⟨⟨#[]⟩, [], [], []⟩ : Cluster)))), vs k.attr] (.tuple [.agg (avs (Attr.cells ((attrM ((mget (clustersM h) k.cluster).getD (⟨⟨#[]⟩, [], [], []⟩ : Cluster)) k.attr).1))), vb ((attrM ((mget (clustersM h) k.cluster).getD (⟨⟨#[]⟩, [], [], []⟩ : Cluster)) k.attr).2)]) [] 0 (attrM_ok ((mget (clustersM h) k.cluster).getD (⟨⟨#[]⟩, [], [], []⟩ : Cluster)) k.attr (by first | exact find_fitD (by assumption) | exact find_fitD (n := k.dev) (by simp_all)))] _ _ _ _ ⟨rfl, rfl⟩) hd12 (ADs.nil))) (fun hd14 => ?_)
   refine AWp.cut (fuel := 7) (m := [true, true, true, true, true, true, true, false, false, false, false, false, false, false]) (s := Z 42 [(4, .ptr 2 0), (findM_c4 h k), (34, vs k.attr)] [findM_c1] 4) (AD.step 7 [11] (ADs.cons _ rfl (AOps.he [.call 85 [.agg (avs (Cluster.cells ((mget (clustersM h) k.cluster).getD (⟨⟨#[]⟩, [], [], []⟩ : Cluster)))), vs k.attr] (.tuple [.agg (avs (Attr.cells ((attrM ((mget (clustersM h) k.cluster).getD (⟨⟨#[]⟩, [], [], []⟩ : Cluster)) k.attr).1))), vb ((attrM ((mget (clustersM h) k.cluster).getD (⟨⟨#[]⟩, [], [], []⟩ : Cluster)) k.attr).2)]) [] 0 (attrM_ok ((mget (clustersM h) k.cluster).getD (⟨⟨#[]⟩, [], [], []⟩ : Cluster)) k.attr (by first | exact find_fitD (by assumption) | exact find_fitD (n := k.dev) (by simp_all)))] _ _ _ _ ⟨rfl, rfl⟩) hd13 (ADs.cons _ rfl (AOps.he [.run 1] _ _ _ _ ⟨rfl, rfl⟩) hd14 (ADs.nil)))) (fun hd15 => ?_)
   refine AWp.cut (fuel := 7) (m := [true, true, true, true, true, true, false, false, false, false, false, true, false, false]) (s := Z 42 [(4, .ptr 2 0), (8, .ptr 4 0), (findM_c4 h k), (33, .ptr 1 2)] [(findM_c3 k), findM_c1, findM_c2] 5) (AD.step 6 [] (ADs.cons _ rfl (AOps.he [.run 1] _ _ _ _ ⟨rfl, rfl⟩) hd14 (ADs.nil))) (fun hd16 => ?_)
   refine AWp.cut (fuel := 7) (m := [true, true, true, true, false, true, true, false, false, false, false, true, false, false]) (s := Z 42 [(4, .ptr 2 0), (8, .ptr 4 0), (findM_c7 h), (31, vs k.cluster), (34, vs k.attr)] [findM_c1, findM_c2] 5) (AD.step 4 [] (ADs.cons _ rfl ?_ hd14 (ADs.nil))) (fun hd17 => ?_)
   ·
    refine AOps.mapGetD keyS Cluster.cells true (clustersM h) k.cluster (⟨⟨#[]⟩, [], [], []⟩ : Cluster) (.tmp 29) (.tmp 31) 46 (.agg #[.string ⟨#[]⟩, .slice none 0 0, .slice none 0 0, .slice none 0 0]) [none, some 7, some 9, some 1] 32 MapAt.m ?_
    refine AOps.cv 42 [(4, .ptr 2 0), (8, .ptr 4 0), (findM_c4 h k), (34, vs k.attr)] [findM_c1, findM_c2] 5 ?_
    exact AOps.nil ⟨rfl, rfl⟩
   refine AWp.cut (fuel := 8) (m := [true, true, true, true, true, true, false, false, false, false, false, false, false, false]) (s := Z 42 [(4, .ptr 2 0), (findM_c4 h k), (33, .ptr 1 2)] [(findM_c3 k), findM_c1] 4) (AD.step 6 [11] (ADs.cons _ rfl (AOps.he [.run 1] _ _ _ _ ⟨rfl, rfl⟩) hd15 (ADs.cons _ rfl (AOps.he [.run 1] _ _ _ _ ⟨rfl, rfl⟩) hd16 (ADs.nil)))) (fun hd18 => ?_)
   refine AWp.cut (fuel := 8) (m := [true, true, true, true, false, true, true, false, false, false, false, false, false, false]) (s := Z 42 [(4, .ptr 2 0), (findM_c7 h), (31, vs k.cluster), (34, vs k.attr)] [findM_c1] 4) (AD.step 4 [11] (ADs.cons _ rfl ?_ hd15 (ADs.cons _ rfl (AOps.he [.run 1] _ _ _ _ ⟨rfl, rfl⟩) hd17 (ADs.nil)))) (fun hd19 => ?_)
   ·
    refine AOps.mapGetD keyS Cluster.cells true (clustersM h) k.cluster (⟨⟨#[]⟩, [], [], []⟩ : Cluster) (.tmp 29) (.tmp 31) 46 (.agg #[.string ⟨#[]⟩, .slice none 0 0, .slice none 0 0, .slice none 0 0]) [none, some 7, some 9, some 1] 32 MapAt.m ?_
    refine AOps.cv 42 [(4, .ptr 2 0), (findM_c4 h k), (34, vs k.attr)] [findM_c1] 4 ?_
    exact AOps.nil ⟨rfl, rfl⟩
   refine AWp.cut (fuel := 8) (m := [true, true, true, true, false, true, false, false, false, false, false, true, false, false]) (s := Z 42 [(4, .ptr 2 0), (8, .ptr 4 0), (findM_c7 h), (31, vs k.cluster), (33, .ptr 1 2)] [(findM_c3 k), findM_c1, findM_c2] 5) (AD.step 4 [6] (ADs.cons _ rfl ?_ hd16 (ADs.cons _ rfl (AOps.he [.run 1] _ _ _ _ ⟨rfl, rfl⟩) hd17 (ADs.nil)))) (fun hd20 => ?_)
   ·
    refine AOps.mapGetD keyS Cluster.cells true (clustersM h) k.cluster (⟨⟨#[]⟩, [], [], []⟩ : Cluster) (.tmp 29) (.tmp 31) 46 (.agg #[.string ⟨#[]⟩, .slice none 0 0, .slice none 0 0, .slice none 0 0]) [none, some 7, some 9, some 1] 32 MapAt.m ?_
    refine AOps.cv 42 [(4, .ptr 2 0), (8, .ptr 4 0), (findM_c4 h k), (33, .ptr 1 2)] [(findM_c3 k), findM_c1, findM_c2] 5 ?_
    exact AOps.nil ⟨rfl, rfl⟩
   refine AWp.cut (fuel := 8) (m := [true, true, true, false, false, true, true, false, false, false, false, true, false, false]) (s := Z 42 [(4, .ptr 2 0), (8, .ptr 4 0), (findM_c7 h), (30, .ptr 1 1), (34, vs k.attr)] [(findM_c3 k), findM_c1, findM_c2] 5) (AD.step 3 [] (ADs.cons _ rfl (AOps.he [.run 1] _ _ _ _ ⟨rfl, rfl⟩) hd17 (ADs.nil))) (fun hd21 => ?_)
   refine AWp.cut (fuel := 8) (m := [true, false, true, true, false, true, true, false, false, false, false, true, false, false]) (s := Z 42 [(4, .ptr 2 0), (8, .ptr 4 0), (findM_c9 h), (31, vs k.cluster), (34, vs k.attr)] [findM_c1, findM_c2] 5) (AD.step 1 [] (ADs.cons _ rfl (AOps.he [.call 80 [.agg (avs (Home.cells h))] (.rv (mapM true kS Cluster.cells (clustersM h))) [] 0 (clustersM_ok h)] _ _ _ _ ⟨rfl, rfl⟩) hd17 (ADs.nil))) (fun hd22 => ?_)
   refine AWp.cut (fuel := 9) (m := [true, true, true, true, false, true, false, false, false, false, false, false, false, false]) (s := Z 42 [(4, .ptr 2 0), (findM_c7 h), (31, vs k.cluster), (33, .ptr 1 2)] [(findM_c3 k), findM_c1] 4) (AD.step 4 [6, 11] (ADs.cons _ rfl ?_ hd18 (ADs.cons _ rfl (AOps.he [.run 1] _ _ _ _ ⟨rfl, rfl⟩) hd19 (ADs.cons _ rfl (AOps.he [.run 1] _ _ _ _ ⟨rfl, rfl⟩) hd20 (ADs.nil))))) (fun hd23 => ?_)
   ·
    refine AOps.mapGetD keyS Cluster.cells true (clustersM h) k.cluster (⟨⟨#[]⟩, [], [], []⟩ : Cluster) (.tmp 29) (.tmp 31) 46 (.agg #[.string ⟨#[]⟩, .slice none 0 0, .slice none 0 0, .slice none 0 0]) [none, some 7, some 9, some 1] 32 MapAt.m ?_
    refine AOps.cv 42 [(4, .ptr 2 0), (findM_c4 h k), (33, .ptr 1 2)] [(findM_c3 k), findM_c1] 4 ?_
    exact AOps.nil ⟨rfl, rfl⟩
   refine AWp.cut (fuel := 9) (m := [true, true, true, false, false, true, true, false, false, false, false, false, false, false]) (s := Z 42 [(4, .ptr 2 0), (findM_c7 h), (30, .ptr 1 1), (34, vs k.attr)] [(findM_c3 k), findM_c1] 4) (AD.step 3 [11] (ADs.cons _ rfl (AOps.he [.run 1] _ _ _ _ ⟨rfl, rfl⟩) hd19 (ADs.cons _ rfl (AOps.he [.run 1] _ _ _ _ ⟨rfl, rfl⟩) hd21 (ADs.nil)))) (fun hd24 => ?_)
   refine AWp.cut (fuel := 9) (m := [true, true, true, false, false, true, false, false, false, false, false, true, false, false]) (s := Z 42 [(4, .ptr 2 0), (8, .ptr 4 0), (findM_c7 h), (30, .ptr 1 1), (33, .ptr 1 2)] [(findM_c3 k), findM_c1, findM_c2] 5) (AD.step 3 [6] (ADs.cons _ rfl (AOps.he [.run 1] _ _ _ _ ⟨rfl, rfl⟩) hd20 (ADs.cons _ rfl (AOps.he [.run 1] _ _ _ _ ⟨rfl, rfl⟩) hd21 (ADs.nil)))) (fun hd25 => ?_)
   refine AWp.cut (fuel := 9) (m := [true, false, true, true, false, true, true, false, false, false, false, false, false, false]) (s := Z 42 [(4, .ptr 2 0), (findM_c9 h), (31, vs k.cluster), (34, vs k.attr)] [findM_c1] 4) (AD.step 1 [11] (ADs.cons _ rfl (AOps.he [.call 80 [.agg (avs (Home.cells h))] (.rv (mapM true kS Cluster.cells (clustersM h))) [] 0 (clustersM_ok h)] _ _ _ _ ⟨rfl, rfl⟩) hd19 (ADs.cons _ rfl (AOps.he [.run 1] _ _ _ _ ⟨rfl, rfl⟩) hd22 (ADs.nil)))) (fun hd26 => ?_)
   refine AWp.cut (fuel := 9) (m := [true, false, true, true, false, true, false, false, false, false, false, true, false, false]) (s := Z 42 [(4, .ptr 2 0), (8, .ptr 4 0), (findM_c9 h), (31, vs k.cluster), (33, .ptr 1 2)] [(findM_c3 k), findM_c1, findM_c2] 5) (AD.step 1 [6] (ADs.cons _ rfl (AOps.he [.call 80 [.agg (avs (Home.cells h))] (.rv (mapM true kS Cluster.cells (clustersM h))) [] 0 (clustersM_ok h)] _ _ _ _ ⟨rfl, rfl⟩) hd20 (ADs.cons _ rfl (AOps.he [.run 1] _ _ _ _ ⟨rfl, rfl⟩) hd22 (ADs.nil)))) (fun hd27 => ?_)
   refine AWp.cut (fuel := 9) (m := [true, false, true, false, false, true, true, false, false, false, false, true, false, false]) (s := Z 42 [(4, .ptr 2 0), (8, .ptr 4 0), (findM_c9 h), (30, .ptr 1 1), (34, vs k.attr)] [(findM_c3 k), findM_c1, findM_c2] 5) (AD.step 1 [3] (ADs.cons _ rfl (AOps.he [.call 80 [.agg (avs (Home.cells h))] (.rv (mapM true kS Cluster.cells (clustersM h))) [] 0 (clustersM_ok h)] _ _ _ _ ⟨rfl, rfl⟩) hd21 (ADs.cons _ rfl (AOps.he [.run 1] _ _ _ _ ⟨rfl, rfl⟩) hd22 (ADs.nil)))) (fun hd28 => ?_)
   refine AWp.cut (fuel := 9) (m := [false, false, true, true, false, true, true, false, false, false, false, true, false, false]) (s := Z 42 [(2, .ptr 0 0), (4, .ptr 2 0), (8, .ptr 4 0), (31, vs k.cluster), (34, vs k.attr)] [(findM_c5 h), findM_c1, findM_c2] 5) (AD.step 0 [] (ADs.cons _ rfl (AOps.he [.run 1] _ _ _ _ ⟨rfl, rfl⟩) hd22 (ADs.nil))) (fun hd29 => ?_)
   refine AWp.cut (fuel := 10) (m := [true, true, true, false, false, true, false, false, false, false, false, false, false, false]) (s := Z 42 [(4, .ptr 2 0), (findM_c7 h), (30, .ptr 1 1), (33, .ptr 1 2)] [(findM_c3 k), findM_c1] 4) (AD.step 3 [6, 11] (ADs.cons _ rfl (AOps.he [.run 1] _ _ _ _ ⟨rfl, rfl⟩) hd23 (ADs.cons _ rfl (AOps.he [.run 1] _ _ _ _ ⟨rfl, rfl⟩) hd24 (ADs.cons _ rfl (AOps.he [.run 1] _ _ _ _ ⟨rfl, rfl⟩) hd25 (ADs.nil))))) (fun hd30 => ?_)
   refine AWp.cut (fuel := 10) (m := [true, false, true, true, false, true, false, false, false, false, false, false, false, false]) (s := Z 42 [(4, .ptr 2 0), (findM_c9 h), (31, vs k.cluster), (33, .ptr 1 2)] [(findM_c3 k), findM_c1] 4) (AD.step 1 [6, 11] (ADs.cons _ rfl (AOps.he [.call 80 [.agg (avs (Home.cells h))] (.rv (mapM true kS Cluster.cells (clustersM h))) [] 0 (clustersM_ok h)] _ _ _ _ ⟨rfl, rfl⟩) hd23 (ADs.cons _ rfl (AOps.he [.run 1] _ _ _ _ ⟨rfl, rfl⟩) hd26 (ADs.cons _ rfl (AOps.he [.run 1] _ _ _ _ ⟨rfl, rfl⟩) hd27 (ADs.nil))))) (fun hd31 => ?_)
   refine AWp.cut (fuel := 10) (m := [true, false, true, false, false, true, true, false, false, false, false, false, false, false]) (s := Z 42 [(4, .ptr 2 0), (findM_c9 h), (30, .ptr 1 1), (34, vs k.attr)] [(findM_c3 k), findM_c1] 4) (AD.step 1 [3, 11] (ADs.cons _ rfl (AOps.he [.call 80 [.agg (avs (Home.cells h))] (.rv (mapM true kS Cluster.cells (clustersM h))) [] 0 (clustersM_ok h)] _ _ _ _ ⟨rfl, rfl⟩) hd24 (ADs.cons _ rfl (AOps.he [.run 1] _ _ _ _ ⟨rfl, rfl⟩) hd26 (ADs.cons _ rfl (AOps.he [.run 1] _ _ _ _ ⟨rfl, rfl⟩) hd28 (ADs.nil))))) (fun hd32 => ?_)
   refine AWp.cut (fuel := 10) (m := [true, false, true, false, false, true, false, false, false, false, false, true, false, false]) (s := Z 42 [(4, .ptr 2 0), (8, .ptr 4 0), (findM_c9 h), (30, .ptr 1 1), (33, .ptr 1 2)] [(findM_c3 k), findM_c1, findM_c2] 5) (AD.step 1 [3, 6] (ADs.cons _ rfl (AOps.he [.call 80 [.agg (avs (Home.cells h))] (.rv (mapM true kS Cluster.cells (clustersM h))) [] 0 (clustersM_ok h)] _ _ _ _ ⟨rfl, rfl⟩) hd25 (ADs.cons _ rfl (AOps.he [.run 1] _ _ _ _ ⟨rfl, rfl⟩) hd27 (ADs.cons _ rfl (AOps.he [.run 1] _ _ _ _ ⟨rfl, rfl⟩) hd28 (ADs.nil))))) (fun hd33 => ?_)
   refine AWp.cut (fuel := 10) (m := [false, false, true, true, false, true, true, false, false, false, false, false, false, false]) (s := Z 42 [(2, .ptr 0 0), (4, .ptr 2 0), (31, vs k.cluster), (34, vs k.attr)] [(findM_c5 h), findM_c1] 4) (AD.step 0 [11] (ADs.cons _ rfl (AOps.he [.run 1] _ _ _ _ ⟨rfl, rfl⟩) hd26 (ADs.cons _ rfl (AOps.he [.run 1] _ _ _ _ ⟨rfl, rfl⟩) hd29 (ADs.nil)))) (fun hd34 => ?_)
   refine AWp.cut (fuel := 10) (m := [false, false, true, true, false, true, false, false, false, false, false, true, false, false]) (s := Z 42 [(2, .ptr 0 0), (4, .ptr 2 0), (8, .ptr 4 0), (31, vs k.cluster), (33, .ptr 1 2)] [(findM_c5 h), (findM_c3 k), findM_c1, findM_c2] 5) (AD.step 0 [6] (ADs.cons _ rfl (AOps.he [.run 1] _ _ _ _ ⟨rfl, rfl⟩) hd27 (ADs.cons _ rfl (AOps.he [.run 1] _ _ _ _ ⟨rfl, rfl⟩) hd29 (ADs.nil)))) (fun hd35 => ?_)
   refine AWp.cut (fuel := 10) (m := [false, false, true, false, false, true, true, false, false, false, false, true, false, false]) (s := Z 42 [(2, .ptr 0 0), (4, .ptr 2 0), (8, .ptr 4 0), (30, .ptr 1 1), (34, vs k.attr)] [(findM_c5 h), (findM_c3 k), findM_c1, findM_c2] 5) (AD.step 0 [3] (ADs.cons _ rfl (AOps.he [.run 1] _ _ _ _ ⟨rfl, rfl⟩) hd28 (ADs.cons _ rfl (AOps.he [.run 1] _ _ _ _ ⟨rfl, rfl⟩) hd29 (ADs.nil)))) (fun hd36 => ?_)
   refine AWp.cut (fuel := 11) (m := [true, false, true, false, false, true, false, false, false, false, false, false, false, false]) (s := Z 42 [(4, .ptr 2 0), (findM_c9 h), (30, .ptr 1 1), (33, .ptr 1 2)] [(findM_c3 k), findM_c1] 4) (AD.step 1 [3, 6, 11] (ADs.cons _ rfl (AOps.he [.call 80 [.agg (avs (Home.cells h))] (.rv (mapM true kS Cluster.cells (clustersM h))) [] 0 (clustersM_ok h)] _ _ _ _ ⟨rfl, rfl⟩) hd30 (ADs.cons _ rfl (AOps.he [.run 1] _ _ _ _ ⟨rfl, rfl⟩) hd31 (ADs.cons _ rfl (AOps.he [.run 1] _ _ _ _ ⟨rfl, rfl⟩) hd32 (ADs.cons _ rfl (AOps.he [.run 1] _ _ _ _ ⟨rfl, rfl⟩) hd33 (ADs.nil)))))) (fun hd37 => ?_)
   refine AWp.cut (fuel := 11) (m := [false, false, true, true, false, true, false, false, false, false, false, false, false, false]) (s := Z 42 [(2, .ptr 0 0), (4, .ptr 2 0), (31, vs k.cluster), (33, .ptr 1 2)] [(findM_c5 h), (findM_c3 k), findM_c1] 4) (AD.step 0 [6, 11] (ADs.cons _ rfl (AOps.he [.run 1] _ _ _ _ ⟨rfl, rfl⟩) hd31 (ADs.cons _ rfl (AOps.he [.run 1] _ _ _ _ ⟨rfl, rfl⟩) hd34 (ADs.cons _ rfl (AOps.he [.run 1] _ _ _ _ ⟨rfl, rfl⟩) hd35 (ADs.nil))))) (fun hd38 => ?_)
   refine AWp.cut (fuel := 11) (m := [false, false, true, false, false, true, true, false, false, false, false, false, false, false]) (s := Z 42 [(2, .ptr 0 0), (4, .ptr 2 0), (30, .ptr 1 1), (34, vs k.attr)] [(findM_c5 h), (findM_c3 k), findM_c1] 4) (AD.step 0 [3, 11] (ADs.cons _ rfl (AOps.he [.run 1] _ _ _ _ ⟨rfl, rfl⟩) hd32 (ADs.cons _ rfl (AOps.he [.run 1] _ _ _ _ ⟨rfl, rfl⟩) hd34 (ADs.cons _ rfl (AOps.he [.run 1] _ _ _ _ ⟨rfl, rfl⟩) hd36 (ADs.nil))))) (fun hd39 => ?_)
   refine AWp.cut (fuel := 11) (m := [false, false, true, false, false, true, false, false, false, false, false, true, false, false]) (s := Z 42 [(2, .ptr 0 0), (4, .ptr 2 0), (8, .ptr 4 0), (30, .ptr 1 1), (33, .ptr 1 2)] [(findM_c5 h), (findM_c3 k), findM_c1, findM_c2] 5) (AD.step 0 [3, 6] (ADs.cons _ rfl (AOps.he [.run 1] _ _ _ _ ⟨rfl, rfl⟩) hd33 (ADs.cons _ rfl (AOps.he [.run 1] _ _ _ _ ⟨rfl, rfl⟩) hd35 (ADs.cons _ rfl (AOps.he [.run 1] _ _ _ _ ⟨rfl, rfl⟩) hd36 (ADs.nil))))) (fun hd40 => ?_)
   refine AWp.cut (fuel := 12) (m := [false, false, true, false, false, true, false, false, false, false, false, false, false, false]) (s := Z 42 [(2, .ptr 0 0), (4, .ptr 2 0), (30, .ptr 1 1), (33, .ptr 1 2)] [(findM_c5 h), (findM_c3 k), findM_c1] 4) (AD.step 0 [3, 6, 11] (ADs.cons _ rfl (AOps.he [.run 1] _ _ _ _ ⟨rfl, rfl⟩) hd37 (ADs.cons _ rfl (AOps.he [.run 1] _ _ _ _ ⟨rfl, rfl⟩) hd38 (ADs.cons _ rfl (AOps.he [.run 1] _ _ _ _ ⟨rfl, rfl⟩) hd39 (ADs.cons _ rfl (AOps.he [.run 1] _ _ _ _ ⟨rfl, rfl⟩) hd40 (ADs.nil)))))) (fun hd41 => ?_)
   refine AWp.cut (fuel := 13) (m := [false, false, true, false, false, false, false, false, false, false, false, false, false, false]) (s := Z 42 [(2, .ptr 0 0), (3, .ptr 1 0), (4, .ptr 2 0), (30, .ptr 1 1)] [(findM_c5 h), (findM_c3 k), findM_c1] 4) (AD.tk 5 _ _ _ _ hd41) (fun hd42 => ?_)
   refine AWp.cut (fuel := 14) (m := [false, false, false, false, false, false, false, false, false, false, false, false, false, false]) (s := Z 42 [(2, .ptr 0 0), (3, .ptr 1 0), (4, .ptr 2 0)] [(findM_c5 h), (findM_c3 k), findM_c1] 4) (AD.tk 2 _ _ _ _ hd42) (fun hd43 => ?_)
   exact AWp.drawnA 14 leZ hd43
def keysM_B2 (h : Home) (n : Int) (e1_ : ByteArray) (k2_ : Nat) (x_ : (List KeyV)) : (List KeyV) :=
 match x_ with
 | (a2_0) => (match (((mget (clustersM h) e1_).getD (⟨⟨#[]⟩, [], [], []⟩ : Cluster)).attrs)[k2_]? with | some e2_ => ((a2_0 ++ [(⟨n, e1_, e2_.name⟩ : KeyV)])) | none => x_)
def keysM_L2 (h : Home) (n : Int) (e1_ : ByteArray) (x_ : (List KeyV)) : (List KeyV) := iterN (keysM_B2 h n e1_) 0 ((((mget (clustersM h) e1_).getD (⟨⟨#[]⟩, [], [], []⟩ : Cluster)).attrs).length) x_
def keysM_B1 (h : Home) (n : Int) (k1_ : Nat) (x_ : (List KeyV)) : (List KeyV) :=
 match x_ with
 | (a1_0) => (match (((devFindM h n).1).clusters)[k1_]? with | some e1_ => ((keysM_L2 h n e1_ (a1_0))) | none => x_)
def keysM_L1 (h : Home) (n : Int) (x_ : (List KeyV)) : (List KeyV) := iterN (keysM_B1 h n) 0 ((((devFindM h n).1).clusters).length) x_
def keysM (h : Home) (n : Int) : List KeyV :=
 (keysM_L1 h n ([]))
abbrev keysM_c1 (h : Home) (n : Int) : Nat × AV := (23, vi (((((devFindM h n).1).clusters).length : Nat) : Int))
abbrev keysM_c2 (h : Home) (n : Int) : Nat × AV := (22, .rv (.sl 1 ((((devFindM h n).1).clusters).map strC)))
abbrev keysM_c3 (h : Home) : Nat × AV := (7, .rv (mapM true kS Cluster.cells (clustersM h)))
abbrev keysM_c4 (h : Home) (e1_ : ByteArray) : Nat × AV := (31, .rv (.sl 7 ((((mget (clustersM h) e1_).getD (⟨⟨#[]⟩, [], [], []⟩ : Cluster)).attrs).map Attr.cells)))
abbrev keysM_c5 (h : Home) (e1_ : ByteArray) : Nat × AV := (32, vi (((((mget (clustersM h) e1_).getD (⟨⟨#[]⟩, [], [], []⟩ : Cluster)).attrs).length : Nat) : Int))
abbrev keysM_c6 (k1_ : Nat) : Nat × AV := (24, vi (k1_ : Int))
theorem keysM_ok (h : Home) (n : Int) :
 ACalls Try.prog G_ 63 [.agg (avs (Home.cells h)), vi n] [] 0 (fun r τ => r = .sl 0 ∧ τ = [(0, .row false 51 3 ((keysM h n).map KeyV.cells))]) := by
 have hkc_ := key_clusters h n
 refine ACalls.row0 (ps := []) rfl false (ACalls.body Try.func63 rfl 48 [(0, .agg (avs (Home.cells h))), (1, vi n)] ?_)
 refine AWp.hz [.run 2] 48 [(1, vi n), (2, .ptr 0 0)] [(0, .box 40 (avs (Home.cells h)))] 1 ?_
 refine AWp.hz [.run 2, .call 79 [.agg (avs (Home.cells h)), vi n] (.tuple [.agg (avs (Dev.cells ((devFindM h n).1))), vb ((devFindM h n).2)]) [] 0 (devFindM_ok h n), .run 6] 48 [(1, vi n), (2, .ptr 0 0), (5, .ptr 1 0)] [(1, .box 60 (avs (Dev.cells ((devFindM h n).1)))), (0, .box 40 (avs (Home.cells h)))] 2 ?_
 refine AWp.hz [.run 1, .call 80 [.agg (avs (Home.cells h))] (.rv (mapM true kS Cluster.cells (clustersM h))) [] 0 (clustersM_ok h), .run 1] 48 [(1, vi n), (5, .ptr 1 0), (keysM_c3 h)] [(1, .box 60 (avs (Dev.cells ((devFindM h n).1))))] 2 ?_
 refine AWp.hz [.run 1] 48 [(1, vi n), (5, .ptr 1 0), (keysM_c3 h), (8, .rv (.v (.slice none 0 0)))] [(1, .box 60 (avs (Dev.cells ((devFindM h n).1))))] 2 ?_
 refine AWp.seq ?_
 refine AWp.hzl [.run 2, .len strC (((devFindM h n).1).clusters) 1, .run 1] 48 [(1, vi n), (keysM_c3 h), (8, .rv (.v (.slice none 0 0))), (keysM_c2 h n), (keysM_c1 h n), (24, vi 0)] [] 2 (fun hl => ?_)
 obtain ⟨hn1, -⟩ := hl
 refine AWp.nrow 8 51 3 ?_
 refine AWp.joinE1 (A := (List KeyV)) (fun x_ => Z 48 [(8, .sl 2)] [(2, .row false 51 3 (x_.map KeyV.cells))] 3) (fun x_ => x_ = (keysM_L1 h n ([]))) ?_ ?_
 ·
  refine AWp.block ?_
  refine AWp.loop (ι := Nat × ((List KeyV))) (fun x_ => Z 48 [(1, vi n), (keysM_c3 h), (8, .sl 2), (keysM_c2 h n), (keysM_c1 h n), (24, vi (x_.1 : Int))] [(2, .row false 51 3 (x_.2.map KeyV.cells))] 3) (fun x_ => x_.1 ≤ ((((devFindM h n).1).clusters).length) ∧ (keysM_L1 h n ([])) = iterN (keysM_B1 h n) x_.1 (((((devFindM h n).1).clusters).length) - x_.1) x_.2 ∧ x_.2.length ≤ x_.1 * 12) (fun x_ => ((((devFindM h n).1).clusters).length) - x_.1) (0, ([])) leZ ⟨Nat.zero_le _, rfl, Nat.zero_le _⟩ ?_
  rintro ⟨k1_, a1_0⟩ ⟨hk1_, hs1_, hv1_⟩
  try dsimp only at hk1_
  try dsimp only at hs1_
  try dsimp only at hv1_
  refine AWp.cv 48 [(1, vi n), (keysM_c3 h), (8, .sl 2), (keysM_c2 h n), (keysM_c1 h n), (keysM_c6 k1_)] [(2, .row false 51 3 (a1_0.map KeyV.cells))] 3 ?_
  refine AWp.hz [.run 1] 48 [(1, vi n), (keysM_c3 h), (8, .sl 2), (keysM_c2 h n), (keysM_c1 h n), (keysM_c6 k1_), (25, vb (decide ((k1_ : Int) < (((((devFindM h n).1).clusters).length : Nat) : Int))))] [(2, .row false 51 3 (a1_0.map KeyV.cells))] 3 ?_
  refine AWp.seq ?_
  refine AWp.cnd (decide ((k1_ : Int) < (((((devFindM h n).1).clusters).length : Nat) : Int))) (fun h2 => ?_) (fun h2 => ?_)
  ·
   have h2' := of_decide_eq_true h2
   refine AWp.skip ?_
   refine AWp.seq ?_
   refine AWp.block ?_
   obtain ⟨e1_, he1_⟩ := getEx (l := ((devFindM h n).1).clusters) (j := k1_) (by omega)
   refine AWp.hz [.idx strC (((devFindM h n).1).clusters) 1 k1_ e1_ he1_, .run 2] 48 [(1, vi n), (keysM_c3 h), (8, .sl 2), (10, vs e1_), (keysM_c2 h n), (keysM_c1 h n), (keysM_c6 k1_)] [(2, .row false 51 3 (a1_0.map KeyV.cells))] 3 ?_
   refine AWp.rg ?_
   refine AOps.hz [.run 2] 48 [(1, vi n), (keysM_c3 h), (8, .sl 2), (10, vs e1_), (keysM_c2 h n), (keysM_c1 h n), (keysM_c6 k1_), (28, .rv (mapM true kS Cluster.cells (clustersM h))), (29, vs e1_)] [(2, .row false 51 3 (a1_0.map KeyV.cells))] 3 ?_
   refine AOps.mapGetD keyS Cluster.cells true (clustersM h) e1_ (⟨⟨#[]⟩, [], [], []⟩ : Cluster) (.tmp 28) (.tmp 29) 46 (.agg #[.string ⟨#[]⟩, .slice none 0 0, .slice none 0 0, .slice none 0 0]) [none, some 7, some 9, some 1] 30 MapAt.m ?_
   refine AOps.hel [.run 1, .len Attr.cells (((mget (clustersM h) e1_).getD (⟨⟨#[]⟩, [], [], []⟩ : Cluster)).attrs) 7, .run 1] 48 [(1, vi n), (keysM_c3 h), (8, .sl 2), (10, vs e1_), (keysM_c2 h n), (keysM_c1 h n), (keysM_c6 k1_), (keysM_c4 h e1_), (keysM_c5 h e1_), (33, vi 0)] [(2, .row false 51 3 (a1_0.map KeyV.cells))] 3 (fun hl => ?_)
   obtain ⟨hn3, -⟩ := hl
   refine AWp.joinE1 (A := (List KeyV)) (fun x_ => Z 48 [(1, vi n), (7, .rv (mapM true kS Cluster.cells (clustersM h))), (8, .sl 2), (22, .rv (.sl 1 ((((devFindM h n).1).clusters).map strC))), (23, vi (((((devFindM h n).1).clusters).length : Nat) : Int)), (24, vi (k1_ : Int))] [(2, .row false 51 3 (x_.map KeyV.cells))] 3) (fun x_ => x_ = (keysM_L2 h n e1_ (a1_0)) ∧ x_.length = a1_0.length + ((((mget (clustersM h) e1_).getD (⟨⟨#[]⟩, [], [], []⟩ : Cluster)).attrs).length)) ?_ ?_
   ·
    refine AWp.block ?_
    refine AWp.loop (ι := Nat × ((List KeyV))) (fun x_ => Z 48 [(1, vi n), (keysM_c3 h), (8, .sl 2), (10, vs e1_), (keysM_c2 h n), (keysM_c1 h n), (keysM_c6 k1_), (keysM_c4 h e1_), (keysM_c5 h e1_), (33, vi (x_.1 : Int))] [(2, .row false 51 3 (x_.2.map KeyV.cells))] 3) (fun x_ => x_.1 ≤ ((((mget (clustersM h) e1_).getD (⟨⟨#[]⟩, [], [], []⟩ : Cluster)).attrs).length) ∧ (keysM_L2 h n e1_ (a1_0)) = iterN (keysM_B2 h n e1_) x_.1 (((((mget (clustersM h) e1_).getD (⟨⟨#[]⟩, [], [], []⟩ : Cluster)).attrs).length) - x_.1) x_.2 ∧ x_.2.length = a1_0.length + x_.1 ∧ ((mget (clustersM h) e1_).getD (⟨⟨#[]⟩, [], [], []⟩ : Cluster)).attrs.length ≤ 12) (fun x_ => ((((mget (clustersM h) e1_).getD (⟨⟨#[]⟩, [], [], []⟩ : Cluster)).attrs).length) - x_.1) (0, (a1_0)) leZ ⟨Nat.zero_le _, rfl, rfl, key_attrs he1_⟩ ?_
    rintro ⟨k2_, a2_0⟩ ⟨hk2_, hs2_, hl2_0, hv2_⟩
    try dsimp only at hk2_
    try dsimp only at hs2_
    try dsimp only at hl2_0
    try dsimp only at hv2_
    refine AWp.cv 48 [(1, vi n), (keysM_c3 h), (8, .sl 2), (10, vs e1_), (keysM_c2 h n), (keysM_c1 h n), (keysM_c6 k1_), (keysM_c4 h e1_), (keysM_c5 h e1_), (33, vi (k2_ : Int))] [(2, .row false 51 3 (a2_0.map KeyV.cells))] 3 ?_
    refine AWp.hz [.run 1] 48 [(1, vi n), (keysM_c3 h), (8, .sl 2), (10, vs e1_), (keysM_c2 h n), (keysM_c1 h n), (keysM_c6 k1_), (keysM_c4 h e1_), (keysM_c5 h e1_), (33, vi (k2_ : Int)), (34, vb (decide ((k2_ : Int) < (((((mget (clustersM h) e1_).getD (⟨⟨#[]⟩, [], [], []⟩ : Cluster)).attrs).length : Nat) : Int))))] [(2, .row false 51 3 (a2_0.map KeyV.cells))] 3 ?_
    refine AWp.seq ?_
    refine AWp.cnd (decide ((k2_ : Int) < (((((mget (clustersM h) e1_).getD (⟨⟨#[]⟩, [], [], []⟩ : Cluster)).attrs).length : Nat) : Int))) (fun h4 => ?_) (fun h4 => ?_)
    ·
     have h4' := of_decide_eq_true h4
     refine AWp.skip ?_
     refine AWp.seq ?_
     refine AWp.block ?_
     obtain ⟨e2_, he2_⟩ := getEx (l := ((mget (clustersM h) e1_).getD (⟨⟨#[]⟩, [], [], []⟩ : Cluster)).attrs) (j := k2_) (by omega)
     refine AWp.hz [.idx Attr.cells (((mget (clustersM h) e1_).getD (⟨⟨#[]⟩, [], [], []⟩ : Cluster)).attrs) 7 k2_ e2_ he2_, .run 3] 48 [(1, vi n), (keysM_c3 h), (8, .sl 2), (10, vs e1_), (12, .ptr 3 0), (keysM_c2 h n), (keysM_c1 h n), (keysM_c6 k1_), (keysM_c4 h e1_), (keysM_c5 h e1_), (33, vi (k2_ : Int))] [(3, .box 48 (avs (Attr.cells e2_))), (2, .row false 51 3 (a2_0.map KeyV.cells))] 4 ?_
     refine AWp.he [.run 6, .lit 51 3 (List.map KeyV.cells [(⟨n, e1_, e2_.name⟩ : KeyV)]), .app KeyV.cells a2_0 ([(⟨n, e1_, e2_.name⟩ : KeyV)]) 2 51 3 40 (apSz (by simp; omega)), .run 1] 48 [(1, vi n), (keysM_c3 h), (8, .sl 2), (10, vs e1_), (keysM_c2 h n), (keysM_c1 h n), (keysM_c6 k1_), (keysM_c4 h e1_), (keysM_c5 h e1_), (33, vi (k2_ : Int))] [(2, .row false 51 3 ((a2_0 ++ [(⟨n, e1_, e2_.name⟩ : KeyV)]).map KeyV.cells))] 4 ?_
     refine AWp.he [.cast (vi (IntKind.i64.wrap ((k2_ : Int) + 1))) (vi ((k2_ + 1 : Nat) : Int)) (congrArg vi (wrap_nat (by omega))), .run 1] 48 [(1, vi n), (keysM_c3 h), (8, .sl 2), (10, vs e1_), (keysM_c2 h n), (keysM_c1 h n), (keysM_c6 k1_), (keysM_c4 h e1_), (keysM_c5 h e1_), (33, vi ((k2_ + 1 : Nat) : Int))] [(2, .row false 51 3 ((a2_0 ++ [(⟨n, e1_, e2_.name⟩ : KeyV)]).map KeyV.cells))] 4 ?_
     exact ⟨(k2_ + 1, ((a2_0 ++ [(⟨n, e1_, e2_.name⟩ : KeyV)]))), ⟨by show k2_ + 1 ≤ _; omega, iterN_next hs2_ (by omega) (by unfold keysM_B2; (try dsimp only); (try simp only [he1_]); (try simp only [he2_]); (try rw [h4]); try kernel_rfl), by first | assumption | (simp only [List.length_set, List.length_append, List.length_cons, List.length_nil]; first | done | assumption | omega) | omega, by assumption⟩, by show _ - (k2_ + 1) < _ - k2_; omega, leG⟩
    ·
     have h4' := of_decide_eq_false h4
     refine AWp.exit ?_
     have hq2_ : (a2_0) = (keysM_L2 h n e1_ (a1_0)) := iterN_end hs2_ (by omega)
     exact ⟨(a2_0), ⟨hq2_, by first | assumption | (simp only [List.length_set, List.length_append, List.length_cons, List.length_nil]; first | done | assumption | omega) | omega⟩, leG⟩
   ·
    rintro _ ⟨rfl, hl2_0⟩
    try dsimp only at hl2_0
    refine AWp.he [.cast (vi (IntKind.i64.wrap ((k1_ : Int) + 1))) (vi ((k1_ + 1 : Nat) : Int)) (congrArg vi (wrap_nat (by omega))), .run 1] 48 [(1, vi n), (keysM_c3 h), (8, .sl 2), (keysM_c2 h n), (keysM_c1 h n), (24, vi ((k1_ + 1 : Nat) : Int))] [(2, .row false 51 3 ((keysM_L2 h n e1_ (a1_0)).map KeyV.cells))] 3 ?_
    exact ⟨(k1_ + 1, ((keysM_L2 h n e1_ (a1_0)))), ⟨by show k1_ + 1 ≤ _; omega, iterN_next hs1_ (by omega) (by unfold keysM_B1; (try dsimp only); (try simp only [he1_]); (try rw [h2]); try kernel_rfl), by have := key_attrs (x := e1_) he1_; first | omega | (dsimp only; omega)⟩, by show _ - (k1_ + 1) < _ - k1_; omega, leG⟩
  ·
   have h2' := of_decide_eq_false h2
   refine AWp.exit ?_
   have hq1_ : (a1_0) = (keysM_L1 h n ([])) := iterN_end hs1_ (by omega)
   exact ⟨(a1_0), hq1_, leG⟩
 ·
  rintro _ rfl
  refine AWp.hz [.run 2] 48 [(4, .sl 2)] [(2, .row false 51 3 ((keysM_L1 h n ([])).map KeyV.cells))] 3 ?_
  refine AWp.ret ?_
  exact leafRow (k := 2) (es := ((keysM_L1 h n ([])).map KeyV.cells)) (by show _ = List.map KeyV.cells (keysM h n); unfold keysM; try kernel_rfl)
def safeM (h : Home) (k : KeyV) : Bool :=
 (((findM h k).2) && ((findM h k).1).safety)
theorem safeM_ok (h : Home) (k : KeyV) :
 ACalls Try.prog G_ 64 [.agg (avs (Home.cells h)), .agg (avs (KeyV.cells k))] [] 0 (fun r τ => r = vb (safeM h k) ∧ τ = []) := by
 refine ACalls.body Try.func64 rfl 18 [(0, .agg (avs (Home.cells h))), (1, .agg (avs (KeyV.cells k)))] ?_
 refine AWp.hz [.run 3] 18 [(2, .ptr 0 0), (3, .ptr 1 0)] [(1, .box 51 (avs (KeyV.cells k))), (0, .box 40 (avs (Home.cells h)))] 2 ?_
 refine AWp.hz [.run 2, .call 81 [.agg (avs (Home.cells h)), .agg (avs (KeyV.cells k))] (.tuple [.agg (avs (Attr.cells ((findM h k).1))), vb ((findM h k).2)]) [] 0 (findM_ok h k), .run 6] 18 [(5, .ptr 2 0), (6, vb ((findM h k).2))] [(2, .box 48 (avs (Attr.cells ((findM h k).1))))] 3 ?_
 refine AWp.join (Z 18 [(4, vb (((findM h k).2) && ((findM h k).1).safety))] [] 3) ?_ ?_
 ·
  refine AWp.region ?_
  refine AOps.hg [.run 2] (((findM h k).2)) 18 (fun b_ => [(5, .ptr 2 0), (14, vb b_)]) [(2, .box 48 (avs (Attr.cells ((findM h k).1))))] 3 (fun hg1 => ?_) (fun hg1 => ?_)
  ·
   refine AOps.he [.run 4] 18 [(4, vb (((findM h k).1).safety))] [] 3 ?_
   exact leZ (by rw [hg1]; try kernel_rfl)
  ·
   refine AOps.he [.run 4] 18 [(4, vb false)] [] 3 ?_
   exact leZ (by rw [hg1]; try kernel_rfl)
 ·
  refine AWp.ret ?_
  exact leafR (r := vb (((findM h k).2) && ((findM h k).1).safety)) (by unfold safeM; try kernel_rfl)
def urgentM_B1 (h : Home) (m : MsgV) (k1_ : Nat) : Option Bool :=
 (match ((keysM h m.dev))[k1_]? with | some e1_ => (bif (beqS e1_.cluster m.cluster && safeM h e1_) then some true else none) | none => none)
def urgentM_L1 (h : Home) (m : MsgV) : Option Bool := scanN (urgentM_B1 h m) 0 ((keysM h m.dev).length)
def urgentM_B2 (h : Home) (m : MsgV) (k2_ : Nat) : Option Bool :=
 (match (m.items)[k2_]? with | some e2_ => (bif safeM h e2_.key then some true else none) | none => none)
def urgentM_L2 (h : Home) (m : MsgV) : Option Bool := scanN (urgentM_B2 h m) 0 m.items.length
def urgentM (h : Home) (m : MsgV) : Bool :=
 (bif (mCheckM m != 0) then false else (bif hasNamesM m.kind then (urgentM_L1 h m).getD ((urgentM_L2 h m).getD false) else (urgentM_L2 h m).getD false))
abbrev urgentM_c1 (h : Home) : Nat × AObj := (0, .box 40 (avs (Home.cells h)))
abbrev urgentM_c2 (m : MsgV) : Nat × AV := (36, .rv (.sl 7 (m.items.map ItemV.cells)))
abbrev urgentM_c3 (h : Home) (m : MsgV) : Nat × AObj := (2, .row false 51 3 ((keysM h m.dev).map KeyV.cells))
abbrev urgentM_c4 (m : MsgV) : Nat × AV := (37, vi (m.items.length : Int))
abbrev urgentM_c5 (h : Home) (m : MsgV) : Nat × AV := (19, vi (((keysM h m.dev).length : Nat) : Int))
abbrev urgentM_c6 (m : MsgV) : Nat × AObj := (1, .box 24 (avs (MsgV.cells m)))
theorem urgentM_ok (h : Home) (m : MsgV) (hd : m.data.size ≤ 1000000) :
 ACalls Try.prog G_ 19 [.agg (avs (Home.cells h)), .agg (avs (MsgV.cells m))] [] 0 (fun r τ => r = vb (urgentM h m) ∧ τ = []) := by
 refine ACalls.body Try.func19 rfl 47 [(0, .agg (avs (Home.cells h))), (1, .agg (avs (MsgV.cells m)))] ?_
 refine AWp.hz [.run 3] 47 [(2, .ptr 0 0), (3, .ptr 1 0)] [(urgentM_c6 m), (urgentM_c1 h)] 2 ?_
 refine AWp.seq ?_
 refine AWp.hz [.run 1, .call 11 [.agg (avs (MsgV.cells m))] (vi (mCheckM m)) [] 0 (mCheckM_ok m (by first | assumption | omega)), .run 1] 47 [(2, .ptr 0 0), (3, .ptr 1 0), (11, vb (mCheckM m != 0))] [(urgentM_c6 m), (urgentM_c1 h)] 2 ?_
 refine AWp.cnd ((mCheckM m != 0)) (fun h1 => ?_) (fun h1 => ?_)
 ·
  refine AWp.hz [.run 1] 47 [(4, vb false)] [] 2 ?_
  refine AWp.ret ?_
  exact leafR (r := vb false) (by unfold urgentM; (try rw [h1]); try kernel_rfl)
 ·
  refine AWp.skip ?_
  refine AWp.seq ?_
  refine AWp.hz [.run 2, .call 25 [vi m.kind] (vb (hasNamesM m.kind)) [] 0 (hasNamesM_ok m.kind)] 47 [(2, .ptr 0 0), (3, .ptr 1 0), (14, vb (hasNamesM m.kind))] [(urgentM_c6 m), (urgentM_c1 h)] 2 ?_
  refine AWp.cnd (hasNamesM m.kind) (fun h2 => ?_) (fun h2 => ?_)
  ·
   refine AWp.hzl [.run 3, .call 63 [.agg (avs (Home.cells h)), vi m.dev] (.sl 0) [(0, .row false 51 3 ((keysM h m.dev).map KeyV.cells))] 1 (keysM_ok h m.dev), .lenR KeyV.cells (keysM h m.dev) 2 3, .run 1] 47 [(2, .ptr 0 0), (3, .ptr 1 0), (18, .sl 2), (urgentM_c5 h m), (20, vi 0)] [(urgentM_c3 h m), (urgentM_c6 m), (urgentM_c1 h)] 3 (fun hl => ?_)
   obtain ⟨hn3, -⟩ := hl
   refine AWp.block ?_
   refine AWp.loop (ι := Nat) (fun k1_ => Z 47 [(2, .ptr 0 0), (3, .ptr 1 0), (18, .sl 2), (urgentM_c5 h m), (20, vi (k1_ : Int))] [(urgentM_c3 h m), (urgentM_c6 m), (urgentM_c1 h)] 3) (fun k1_ => k1_ ≤ ((keysM h m.dev).length) ∧ urgentM_L1 h m = scanN (urgentM_B1 h m) k1_ (((keysM h m.dev).length) - k1_)) (fun k1_ => ((keysM h m.dev).length) - k1_) 0 leZ ⟨Nat.zero_le _, rfl⟩ ?_
   intro k1_ ⟨hk1_, hs1_⟩
   refine AWp.hz [.run 1] 47 [(2, .ptr 0 0), (3, .ptr 1 0), (18, .sl 2), (urgentM_c5 h m), (20, vi (k1_ : Int)), (21, vb (decide ((k1_ : Int) < (((keysM h m.dev).length : Nat) : Int))))] [(urgentM_c3 h m), (urgentM_c6 m), (urgentM_c1 h)] 3 ?_
   refine AWp.seq ?_
   refine AWp.cnd (decide ((k1_ : Int) < (((keysM h m.dev).length : Nat) : Int))) (fun h4 => ?_) (fun h4 => ?_)
   ·
    have h4' := of_decide_eq_true h4
    refine AWp.skip ?_
    refine AWp.seq ?_
    refine AWp.block ?_
    have hi5 : k1_ < (keysM h m.dev).length := by first | omega | (simp only [List.length_set]; omega)
    obtain ⟨e1_, he1_⟩ := getEx (l := (keysM h m.dev)) (j := k1_) (by omega)
    refine AWp.hz [.idxR KeyV.cells (keysM h m.dev) 2 3 k1_ hi5, .ldR KeyV.cells (keysM h m.dev) 2 3 k1_ 0 3 e1_ he1_, .run 2] 47 [(2, .ptr 0 0), (3, .ptr 1 0), (6, .ptr 3 0), (18, .sl 2), (urgentM_c5 h m), (20, vi (k1_ : Int))] [(3, .box 51 (avs (KeyV.cells e1_))), (urgentM_c3 h m), (urgentM_c6 m), (urgentM_c1 h)] 4 ?_
    refine AWp.join (Z 47 [(2, .ptr 0 0), (3, .ptr 1 0), (18, .sl 2), (19, vi (((keysM h m.dev).length : Nat) : Int)), (20, vi (k1_ : Int)), (33, vb (beqS e1_.cluster m.cluster && safeM h e1_))] [(2, .row false 51 3 ((keysM h m.dev).map KeyV.cells)), (1, .box 24 (avs (MsgV.cells m))), (0, .box 40 (avs (Home.cells h)))] 4) ?_ ?_
    ·
     refine AWp.region ?_
     refine AOps.hg [.run 6] (beqS e1_.cluster m.cluster) 47 (fun b_ => [(2, .ptr 0 0), (3, .ptr 1 0), (6, .ptr 3 0), (18, .sl 2), (urgentM_c5 h m), (20, vi (k1_ : Int)), (29, vb b_)]) [(3, .box 51 (avs (KeyV.cells e1_))), (urgentM_c3 h m), (urgentM_c6 m), (urgentM_c1 h)] 4 (fun hg6 => ?_) (fun hg6 => ?_)
     ·
      refine AOps.he [.run 2, .call 64 [.agg (avs (Home.cells h)), .agg (avs (KeyV.cells e1_))] (vb (safeM h e1_)) [] 0 (safeM_ok h e1_), .run 1] 47 [(2, .ptr 0 0), (3, .ptr 1 0), (18, .sl 2), (urgentM_c5 h m), (20, vi (k1_ : Int)), (33, vb (safeM h e1_))] [(urgentM_c3 h m), (urgentM_c6 m), (urgentM_c1 h)] 4 ?_
      exact leZ (by rw [hg6]; try kernel_rfl)
     ·
      refine AOps.he [.run 4] 47 [(2, .ptr 0 0), (3, .ptr 1 0), (18, .sl 2), (urgentM_c5 h m), (20, vi (k1_ : Int)), (33, vb false)] [(urgentM_c3 h m), (urgentM_c6 m), (urgentM_c1 h)] 4 ?_
      exact leZ (by rw [hg6]; try kernel_rfl)
    ·
     refine AWp.cnd ((beqS e1_.cluster m.cluster && safeM h e1_)) (fun h7 => ?_) (fun h7 => ?_)
     ·
      refine AWp.hz [.run 1] 47 [(4, vb true)] [] 4 ?_
      refine AWp.ret ?_
      have hL1_ : urgentM_L1 h m = some true := scanN_some hs1_ (by omega) (by unfold urgentM_B1; (try simp only [he1_]); (try rw [h4]); (try rw [h7]); try kernel_rfl)
      exact leafR (r := vb true) (by unfold urgentM; (try rw [h1]); (try rw [h2]); (try rw [hL1_]); try kernel_rfl)
     ·
      refine AWp.skip ?_
      refine AWp.he [.cast (vi (IntKind.i64.wrap ((k1_ : Int) + 1))) (vi ((k1_ + 1 : Nat) : Int)) (congrArg vi (wrap_nat (by omega))), .run 1] 47 [(2, .ptr 0 0), (3, .ptr 1 0), (18, .sl 2), (urgentM_c5 h m), (20, vi ((k1_ + 1 : Nat) : Int))] [(urgentM_c3 h m), (urgentM_c6 m), (urgentM_c1 h)] 4 ?_
      exact ⟨k1_ + 1, ⟨by omega, scanN_none hs1_ (by omega) (by unfold urgentM_B1; (try simp only [he1_]); (try rw [h4]); (try rw [h7]); try kernel_rfl)⟩, by omega, leG⟩
   ·
    have h4' := of_decide_eq_false h4
    refine AWp.exit ?_
    have hL1_ : urgentM_L1 h m = none := scanN_end hs1_ (by omega)
    refine AWp.seq ?_
    refine AWp.hzl [.run 2, .len ItemV.cells m.items 7, .run 1] 47 [(2, .ptr 0 0), (urgentM_c2 m), (urgentM_c4 m), (38, vi 0)] [(urgentM_c1 h)] 3 (fun hl => ?_)
    obtain ⟨hn8, -⟩ := hl
    refine AWp.block ?_
    refine AWp.loop (ι := Nat) (fun k2_ => Z 47 [(2, .ptr 0 0), (urgentM_c2 m), (urgentM_c4 m), (38, vi (k2_ : Int))] [(urgentM_c1 h)] 3) (fun k2_ => k2_ ≤ m.items.length ∧ urgentM_L2 h m = scanN (urgentM_B2 h m) k2_ (m.items.length - k2_)) (fun k2_ => m.items.length - k2_) 0 leZ ⟨Nat.zero_le _, rfl⟩ ?_
    intro k2_ ⟨hk2_, hs2_⟩
    refine AWp.hz [.run 1] 47 [(2, .ptr 0 0), (urgentM_c2 m), (urgentM_c4 m), (38, vi (k2_ : Int)), (39, vb (decide ((k2_ : Int) < (m.items.length : Int))))] [(urgentM_c1 h)] 3 ?_
    refine AWp.seq ?_
    refine AWp.cnd (decide ((k2_ : Int) < (m.items.length : Int))) (fun h9 => ?_) (fun h9 => ?_)
    ·
     have h9' := of_decide_eq_true h9
     refine AWp.skip ?_
     refine AWp.seq ?_
     refine AWp.block ?_
     obtain ⟨e2_, he2_⟩ := getEx (l := m.items) (j := k2_) (by omega)
     refine AWp.hz [.idx ItemV.cells m.items 7 k2_ e2_ he2_, .run 3] 47 [(2, .ptr 0 0), (8, .ptr 3 0), (urgentM_c2 m), (urgentM_c4 m), (38, vi (k2_ : Int))] [(3, .box 55 (avs (ItemV.cells e2_))), (urgentM_c1 h)] 4 ?_
     refine AWp.hz [.run 3, .call 64 [.agg (avs (Home.cells h)), .agg [vi e2_.key.dev, vs e2_.key.cluster, vs e2_.key.attr]] (vb (safeM h e2_.key)) [] 0 (safeM_ok h e2_.key)] 47 [(2, .ptr 0 0), (urgentM_c2 m), (urgentM_c4 m), (38, vi (k2_ : Int)), (45, vb (safeM h e2_.key))] [(urgentM_c1 h)] 4 ?_
     refine AWp.cnd (safeM h e2_.key) (fun h10 => ?_) (fun h10 => ?_)
     ·
      refine AWp.hz [.run 1] 47 [(4, vb true)] [] 4 ?_
      refine AWp.ret ?_
      have hL2_ : urgentM_L2 h m = some true := scanN_some hs2_ (by omega) (by unfold urgentM_B2; (try simp only [he2_]); (try rw [h9]); (try rw [h10]); try kernel_rfl)
      exact leafR (r := vb true) (by unfold urgentM; (try rw [h1]); (try rw [h2]); (try rw [hL1_]); (try rw [hL2_]); try kernel_rfl)
     ·
      refine AWp.skip ?_
      refine AWp.he [.cast (vi (IntKind.i64.wrap ((k2_ : Int) + 1))) (vi ((k2_ + 1 : Nat) : Int)) (congrArg vi (wrap_nat (by omega))), .run 1] 47 [(2, .ptr 0 0), (urgentM_c2 m), (urgentM_c4 m), (38, vi ((k2_ + 1 : Nat) : Int))] [(urgentM_c1 h)] 4 ?_
      exact ⟨k2_ + 1, ⟨by omega, scanN_none hs2_ (by omega) (by unfold urgentM_B2; (try simp only [he2_]); (try rw [h9]); (try rw [h10]); try kernel_rfl)⟩, by omega, leG⟩
    ·
     have h9' := of_decide_eq_false h9
     refine AWp.exit ?_
     have hL2_ : urgentM_L2 h m = none := scanN_end hs2_ (by omega)
     refine AWp.hz [.run 1] 47 [(4, vb false)] [] 3 ?_
     refine AWp.ret ?_
     exact leafR (r := vb false) (by unfold urgentM; (try rw [h1]); (try rw [h2]); (try rw [hL1_]); (try rw [hL2_]); try kernel_rfl)
  ·
   refine AWp.skip ?_
   refine AWp.seq ?_
   refine AWp.hzl [.run 2, .len ItemV.cells m.items 7, .run 1] 47 [(2, .ptr 0 0), (urgentM_c2 m), (urgentM_c4 m), (38, vi 0)] [(urgentM_c1 h)] 2 (fun hl => ?_)
   obtain ⟨hn11, -⟩ := hl
   refine AWp.block ?_
   refine AWp.loop (ι := Nat) (fun k2_ => Z 47 [(2, .ptr 0 0), (urgentM_c2 m), (urgentM_c4 m), (38, vi (k2_ : Int))] [(urgentM_c1 h)] 2) (fun k2_ => k2_ ≤ m.items.length ∧ urgentM_L2 h m = scanN (urgentM_B2 h m) k2_ (m.items.length - k2_)) (fun k2_ => m.items.length - k2_) 0 leZ ⟨Nat.zero_le _, rfl⟩ ?_
   intro k2_ ⟨hk2_, hs2_⟩
   refine AWp.hz [.run 1] 47 [(2, .ptr 0 0), (urgentM_c2 m), (urgentM_c4 m), (38, vi (k2_ : Int)), (39, vb (decide ((k2_ : Int) < (m.items.length : Int))))] [(urgentM_c1 h)] 2 ?_
   refine AWp.seq ?_
   refine AWp.cnd (decide ((k2_ : Int) < (m.items.length : Int))) (fun h12 => ?_) (fun h12 => ?_)
   ·
    have h12' := of_decide_eq_true h12
    refine AWp.skip ?_
    refine AWp.seq ?_
    refine AWp.block ?_
    obtain ⟨e2_, he2_⟩ := getEx (l := m.items) (j := k2_) (by omega)
    refine AWp.hz [.idx ItemV.cells m.items 7 k2_ e2_ he2_, .run 3] 47 [(2, .ptr 0 0), (8, .ptr 2 0), (urgentM_c2 m), (urgentM_c4 m), (38, vi (k2_ : Int))] [(2, .box 55 (avs (ItemV.cells e2_))), (urgentM_c1 h)] 3 ?_
    refine AWp.hz [.run 3, .call 64 [.agg (avs (Home.cells h)), .agg [vi e2_.key.dev, vs e2_.key.cluster, vs e2_.key.attr]] (vb (safeM h e2_.key)) [] 0 (safeM_ok h e2_.key)] 47 [(2, .ptr 0 0), (urgentM_c2 m), (urgentM_c4 m), (38, vi (k2_ : Int)), (45, vb (safeM h e2_.key))] [(urgentM_c1 h)] 3 ?_
    refine AWp.cnd (safeM h e2_.key) (fun h13 => ?_) (fun h13 => ?_)
    ·
     refine AWp.hz [.run 1] 47 [(4, vb true)] [] 3 ?_
     refine AWp.ret ?_
     have hL2_ : urgentM_L2 h m = some true := scanN_some hs2_ (by omega) (by unfold urgentM_B2; (try simp only [he2_]); (try rw [h12]); (try rw [h13]); try kernel_rfl)
     exact leafR (r := vb true) (by unfold urgentM; (try rw [h1]); (try rw [h2]); (try rw [hL2_]); try kernel_rfl)
    ·
     refine AWp.skip ?_
     refine AWp.he [.cast (vi (IntKind.i64.wrap ((k2_ : Int) + 1))) (vi ((k2_ + 1 : Nat) : Int)) (congrArg vi (wrap_nat (by omega))), .run 1] 47 [(2, .ptr 0 0), (urgentM_c2 m), (urgentM_c4 m), (38, vi ((k2_ + 1 : Nat) : Int))] [(urgentM_c1 h)] 3 ?_
     exact ⟨k2_ + 1, ⟨by omega, scanN_none hs2_ (by omega) (by unfold urgentM_B2; (try simp only [he2_]); (try rw [h12]); (try rw [h13]); try kernel_rfl)⟩, by omega, leG⟩
   ·
    have h12' := of_decide_eq_false h12
    refine AWp.exit ?_
    have hL2_ : urgentM_L2 h m = none := scanN_end hs2_ (by omega)
    refine AWp.hz [.run 1] 47 [(4, vb false)] [] 2 ?_
    refine AWp.ret ?_
    exact leafR (r := vb false) (by unfold urgentM; (try rw [h1]); (try rw [h2]); (try rw [hL2_]); try kernel_rfl)
def rstdM  : List Cluster :=
 [(⟨⟨#[111, 110, 111, 102, 102]⟩, [(rflagM (⟨#[111, 110]⟩) true false)], [(⟨(rsetsM (⟨#[111, 110]⟩) (⟨#[111, 110]⟩) 1).name, ((rsetsM (⟨#[111, 110]⟩) (⟨#[111, 110]⟩) 1).param), (rsetsM (⟨#[111, 110]⟩) (⟨#[111, 110]⟩) 1).effects⟩ : Command), (⟨(rsetsM (⟨#[111, 102, 102]⟩) (⟨#[111, 110]⟩) 0).name, ((rsetsM (⟨#[111, 102, 102]⟩) (⟨#[111, 110]⟩) 0).param), (rsetsM (⟨#[111, 102, 102]⟩) (⟨#[111, 110]⟩) 0).effects⟩ : Command), (⟨⟨#[116, 111, 103, 103, 108, 101]⟩, ⟨⟨#[]⟩, 0, 0, 0, [], false, false⟩, [(⟨4, ⟨#[111, 110]⟩, 0⟩ : Effect)]⟩ : Command)], []⟩ : Cluster), (⟨⟨#[108, 101, 118, 101, 108]⟩, [(rnumberM (⟨#[108, 101, 118, 101, 108]⟩) 0 100 true)], [(⟨⟨#[109, 111, 118, 101]⟩, (rnumberM (⟨#[116, 111]⟩) 0 100 false), [(⟨2, ⟨#[108, 101, 118, 101, 108]⟩, 0⟩ : Effect)]⟩ : Command), (⟨⟨#[115, 116, 101, 112]⟩, ⟨⟨#[]⟩, 0, 0, 0, [], false, false⟩, [(⟨3, ⟨#[108, 101, 118, 101, 108]⟩, 10⟩ : Effect)]⟩ : Command)], []⟩ : Cluster), (⟨⟨#[108, 111, 99, 107]⟩, [(rflagM (⟨#[108, 111, 99, 107, 101, 100]⟩) true true)], [(⟨(rsetsM (⟨#[108, 111, 99, 107]⟩) (⟨#[108, 111, 99, 107, 101, 100]⟩) 1).name, ((rsetsM (⟨#[108, 111, 99, 107]⟩) (⟨#[108, 111, 99, 107, 101, 100]⟩) 1).param), (rsetsM (⟨#[108, 111, 99, 107]⟩) (⟨#[108, 111, 99, 107, 101, 100]⟩) 1).effects⟩ : Command), (⟨(rsetsM (⟨#[117, 110, 108, 111, 99, 107]⟩) (⟨#[108, 111, 99, 107, 101, 100]⟩) 0).name, ((rsetsM (⟨#[117, 110, 108, 111, 99, 107]⟩) (⟨#[108, 111, 99, 107, 101, 100]⟩) 0).param), (rsetsM (⟨#[117, 110, 108, 111, 99, 107]⟩) (⟨#[108, 111, 99, 107, 101, 100]⟩) 0).effects⟩ : Command)], [⟨#[106, 97, 109]⟩]⟩ : Cluster), (⟨⟨#[116, 104, 101, 114, 109, 111, 115, 116, 97, 116]⟩, [(rnumberM (⟨#[116, 97, 114, 103, 101, 116]⟩) 50 300 true), (rnumberM (⟨#[116, 101, 109, 112]⟩) (-500) 1000 false)], [], []⟩ : Cluster), (⟨⟨#[115, 109, 111, 107, 101]⟩, [(rflagM (⟨#[97, 108, 97, 114, 109]⟩) false true)], [], [⟨#[116, 101, 115, 116]⟩]⟩ : Cluster), (⟨⟨#[108, 101, 97, 107]⟩, [(rflagM (⟨#[119, 101, 116]⟩) false true)], [], []⟩ : Cluster), (⟨⟨#[118, 97, 108, 118, 101]⟩, [(rflagM (⟨#[111, 112, 101, 110]⟩) true true)], [(⟨(rsetsM (⟨#[111, 112, 101, 110]⟩) (⟨#[111, 112, 101, 110]⟩) 1).name, ((rsetsM (⟨#[111, 112, 101, 110]⟩) (⟨#[111, 112, 101, 110]⟩) 1).param), (rsetsM (⟨#[111, 112, 101, 110]⟩) (⟨#[111, 112, 101, 110]⟩) 1).effects⟩ : Command), (⟨(rsetsM (⟨#[99, 108, 111, 115, 101]⟩) (⟨#[111, 112, 101, 110]⟩) 0).name, ((rsetsM (⟨#[99, 108, 111, 115, 101]⟩) (⟨#[111, 112, 101, 110]⟩) 0).param), (rsetsM (⟨#[99, 108, 111, 115, 101]⟩) (⟨#[111, 112, 101, 110]⟩) 0).effects⟩ : Command)], []⟩ : Cluster), (⟨⟨#[109, 101, 116, 101, 114]⟩, [(rnumberM (⟨#[112, 111, 119, 101, 114]⟩) 0 100000 false)], [], []⟩ : Cluster)]
abbrev rstdM_c1 : Nat × AObj := (0, .box 89 [vs (⟨#[116, 111, 103, 103, 108, 101]⟩), vs (⟨#[]⟩), vi 0, vi 0, vi 0, .rv (.v (.slice none 0 0)), vb false, vb false, .rv (.sl 3 (([(⟨4, ⟨#[111, 110]⟩, 0⟩ : Effect)]).map Effect.cells))])
theorem rstdM_ok  :
 ACalls Try.prog G_ 20 [] [] 0 (fun r τ => r = .rv (.sl 4 ((rstdM ).map Cluster.cells)) ∧ τ = []) := by
 refine ACalls.body Try.func20 rfl 55 [] ?_
 refine AWp.hz [.run 1] 55 [] [] 0 ?_
 refine AWp.hz [.run 1, .lit 86 3 (List.map Effect.cells [(⟨4, ⟨#[111, 110]⟩, 0⟩ : Effect)]), .run 3] 55 [(1, .ptr 0 0)] [rstdM_c1] 1 ?_
 refine AWp.hz [.call 65 [vs (⟨#[116, 111]⟩), vi 0, vi 100, vb false] (.agg (avs (Attr.cells (rnumberM (⟨#[116, 111]⟩) 0 100 false)))) [] 0 (rnumberM_ok (⟨#[116, 111]⟩) 0 100 false), .run 1, .lit 86 3 (List.map Effect.cells [(⟨2, ⟨#[108, 101, 118, 101, 108]⟩, 0⟩ : Effect)]), .run 3] 55 [(1, .ptr 0 0), (2, .ptr 1 0)] [(1, .box 89 [vs (⟨#[109, 111, 118, 101]⟩), vs ((rnumberM (⟨#[116, 111]⟩) 0 100 false).name), vi ((rnumberM (⟨#[116, 111]⟩) 0 100 false).kind), vi ((rnumberM (⟨#[116, 111]⟩) 0 100 false).min), vi ((rnumberM (⟨#[116, 111]⟩) 0 100 false).max), .rv (.sl 1 (((rnumberM (⟨#[116, 111]⟩) 0 100 false).enum).map strC)), vb ((rnumberM (⟨#[116, 111]⟩) 0 100 false).writable), vb ((rnumberM (⟨#[116, 111]⟩) 0 100 false).safety), .rv (.sl 3 (([(⟨2, ⟨#[108, 101, 118, 101, 108]⟩, 0⟩ : Effect)]).map Effect.cells))]), rstdM_c1] 2 ?_
 refine AWp.hz [.run 1, .lit 86 3 (List.map Effect.cells [(⟨3, ⟨#[108, 101, 118, 101, 108]⟩, 10⟩ : Effect)]), .run 3] 55 [(1, .ptr 0 0), (2, .ptr 1 0), (3, .ptr 2 0)] [(2, .box 89 [vs (⟨#[115, 116, 101, 112]⟩), vs (⟨#[]⟩), vi 0, vi 0, vi 0, .rv (.v (.slice none 0 0)), vb false, vb false, .rv (.sl 3 (([(⟨3, ⟨#[108, 101, 118, 101, 108]⟩, 10⟩ : Effect)]).map Effect.cells))]), (1, .box 89 [vs (⟨#[109, 111, 118, 101]⟩), vs ((rnumberM (⟨#[116, 111]⟩) 0 100 false).name), vi ((rnumberM (⟨#[116, 111]⟩) 0 100 false).kind), vi ((rnumberM (⟨#[116, 111]⟩) 0 100 false).min), vi ((rnumberM (⟨#[116, 111]⟩) 0 100 false).max), .rv (.sl 1 (((rnumberM (⟨#[116, 111]⟩) 0 100 false).enum).map strC)), vb ((rnumberM (⟨#[116, 111]⟩) 0 100 false).writable), vb ((rnumberM (⟨#[116, 111]⟩) 0 100 false).safety), .rv (.sl 3 (([(⟨2, ⟨#[108, 101, 118, 101, 108]⟩, 0⟩ : Effect)]).map Effect.cells))]), rstdM_c1] 3 ?_
 refine AWp.dz [.agg (avs (Attr.cells (rflagM (⟨#[111, 110]⟩) true false))), .rv (.sl 7 (([(rflagM (⟨#[111, 110]⟩) true false)]).map Attr.cells)), .agg (avs (Command.cells (rsetsM (⟨#[111, 110]⟩) (⟨#[111, 110]⟩) 1))), .agg (avs (Command.cells (rsetsM (⟨#[111, 102, 102]⟩) (⟨#[111, 110]⟩) 0))), .agg [vs (⟨#[116, 111, 103, 103, 108, 101]⟩), vs (⟨#[]⟩), vi 0, vi 0, vi 0, .rv (.sl 1 (([]).map strC)), vb false, vb false, .rv (.sl 3 (([(⟨4, ⟨#[111, 110]⟩, 0⟩ : Effect)]).map Effect.cells))], .rv (.sl 9 (([(⟨(rsetsM (⟨#[111, 110]⟩) (⟨#[111, 110]⟩) 1).name, ((rsetsM (⟨#[111, 110]⟩) (⟨#[111, 110]⟩) 1).param), (rsetsM (⟨#[111, 110]⟩) (⟨#[111, 110]⟩) 1).effects⟩ : Command), (⟨(rsetsM (⟨#[111, 102, 102]⟩) (⟨#[111, 110]⟩) 0).name, ((rsetsM (⟨#[111, 102, 102]⟩) (⟨#[111, 110]⟩) 0).param), (rsetsM (⟨#[111, 102, 102]⟩) (⟨#[111, 110]⟩) 0).effects⟩ : Command), (⟨⟨#[116, 111, 103, 103, 108, 101]⟩, ⟨⟨#[]⟩, 0, 0, 0, [], false, false⟩, [(⟨4, ⟨#[111, 110]⟩, 0⟩ : Effect)]⟩ : Command)]).map Command.cells)), .agg [vs (⟨#[111, 110, 111, 102, 102]⟩), .rv (.sl 7 (([(rflagM (⟨#[111, 110]⟩) true false)]).map Attr.cells)), .rv (.sl 9 (([(⟨(rsetsM (⟨#[111, 110]⟩) (⟨#[111, 110]⟩) 1).name, ((rsetsM (⟨#[111, 110]⟩) (⟨#[111, 110]⟩) 1).param), (rsetsM (⟨#[111, 110]⟩) (⟨#[111, 110]⟩) 1).effects⟩ : Command), (⟨(rsetsM (⟨#[111, 102, 102]⟩) (⟨#[111, 110]⟩) 0).name, ((rsetsM (⟨#[111, 102, 102]⟩) (⟨#[111, 110]⟩) 0).param), (rsetsM (⟨#[111, 102, 102]⟩) (⟨#[111, 110]⟩) 0).effects⟩ : Command), (⟨⟨#[116, 111, 103, 103, 108, 101]⟩, ⟨⟨#[]⟩, 0, 0, 0, [], false, false⟩, [(⟨4, ⟨#[111, 110]⟩, 0⟩ : Effect)]⟩ : Command)]).map Command.cells)), .rv (.sl 1 (([]).map strC))], .agg (avs (Attr.cells (rnumberM (⟨#[108, 101, 118, 101, 108]⟩) 0 100 true))), .rv (.sl 7 (([(rnumberM (⟨#[108, 101, 118, 101, 108]⟩) 0 100 true)]).map Attr.cells)), .agg [vs (⟨#[109, 111, 118, 101]⟩), vs ((rnumberM (⟨#[116, 111]⟩) 0 100 false).name), vi ((rnumberM (⟨#[116, 111]⟩) 0 100 false).kind), vi ((rnumberM (⟨#[116, 111]⟩) 0 100 false).min), vi ((rnumberM (⟨#[116, 111]⟩) 0 100 false).max), .rv (.sl 1 (((rnumberM (⟨#[116, 111]⟩) 0 100 false).enum).map strC)), vb ((rnumberM (⟨#[116, 111]⟩) 0 100 false).writable), vb ((rnumberM (⟨#[116, 111]⟩) 0 100 false).safety), .rv (.sl 3 (([(⟨2, ⟨#[108, 101, 118, 101, 108]⟩, 0⟩ : Effect)]).map Effect.cells))], .agg [vs (⟨#[115, 116, 101, 112]⟩), vs (⟨#[]⟩), vi 0, vi 0, vi 0, .rv (.sl 1 (([]).map strC)), vb false, vb false, .rv (.sl 3 (([(⟨3, ⟨#[108, 101, 118, 101, 108]⟩, 10⟩ : Effect)]).map Effect.cells))], .rv (.sl 9 (([(⟨⟨#[109, 111, 118, 101]⟩, (rnumberM (⟨#[116, 111]⟩) 0 100 false), [(⟨2, ⟨#[108, 101, 118, 101, 108]⟩, 0⟩ : Effect)]⟩ : Command), (⟨⟨#[115, 116, 101, 112]⟩, ⟨⟨#[]⟩, 0, 0, 0, [], false, false⟩, [(⟨3, ⟨#[108, 101, 118, 101, 108]⟩, 10⟩ : Effect)]⟩ : Command)]).map Command.cells)), .agg [vs (⟨#[108, 101, 118, 101, 108]⟩), .rv (.sl 7 (([(rnumberM (⟨#[108, 101, 118, 101, 108]⟩) 0 100 true)]).map Attr.cells)), .rv (.sl 9 (([(⟨⟨#[109, 111, 118, 101]⟩, (rnumberM (⟨#[116, 111]⟩) 0 100 false), [(⟨2, ⟨#[108, 101, 118, 101, 108]⟩, 0⟩ : Effect)]⟩ : Command), (⟨⟨#[115, 116, 101, 112]⟩, ⟨⟨#[]⟩, 0, 0, 0, [], false, false⟩, [(⟨3, ⟨#[108, 101, 118, 101, 108]⟩, 10⟩ : Effect)]⟩ : Command)]).map Command.cells)), .rv (.sl 1 (([]).map strC))], .agg (avs (Attr.cells (rflagM (⟨#[108, 111, 99, 107, 101, 100]⟩) true true))), .rv (.sl 7 (([(rflagM (⟨#[108, 111, 99, 107, 101, 100]⟩) true true)]).map Attr.cells)), .agg (avs (Command.cells (rsetsM (⟨#[108, 111, 99, 107]⟩) (⟨#[108, 111, 99, 107, 101, 100]⟩) 1))), .agg (avs (Command.cells (rsetsM (⟨#[117, 110, 108, 111, 99, 107]⟩) (⟨#[108, 111, 99, 107, 101, 100]⟩) 0))), .rv (.sl 9 (([(⟨(rsetsM (⟨#[108, 111, 99, 107]⟩) (⟨#[108, 111, 99, 107, 101, 100]⟩) 1).name, ((rsetsM (⟨#[108, 111, 99, 107]⟩) (⟨#[108, 111, 99, 107, 101, 100]⟩) 1).param), (rsetsM (⟨#[108, 111, 99, 107]⟩) (⟨#[108, 111, 99, 107, 101, 100]⟩) 1).effects⟩ : Command), (⟨(rsetsM (⟨#[117, 110, 108, 111, 99, 107]⟩) (⟨#[108, 111, 99, 107, 101, 100]⟩) 0).name, ((rsetsM (⟨#[117, 110, 108, 111, 99, 107]⟩) (⟨#[108, 111, 99, 107, 101, 100]⟩) 0).param), (rsetsM (⟨#[117, 110, 108, 111, 99, 107]⟩) (⟨#[108, 111, 99, 107, 101, 100]⟩) 0).effects⟩ : Command)]).map Command.cells)), .rv (.sl 1 (([⟨#[106, 97, 109]⟩]).map strC)), .agg [vs (⟨#[108, 111, 99, 107]⟩), .rv (.sl 7 (([(rflagM (⟨#[108, 111, 99, 107, 101, 100]⟩) true true)]).map Attr.cells)), .rv (.sl 9 (([(⟨(rsetsM (⟨#[108, 111, 99, 107]⟩) (⟨#[108, 111, 99, 107, 101, 100]⟩) 1).name, ((rsetsM (⟨#[108, 111, 99, 107]⟩) (⟨#[108, 111, 99, 107, 101, 100]⟩) 1).param), (rsetsM (⟨#[108, 111, 99, 107]⟩) (⟨#[108, 111, 99, 107, 101, 100]⟩) 1).effects⟩ : Command), (⟨(rsetsM (⟨#[117, 110, 108, 111, 99, 107]⟩) (⟨#[108, 111, 99, 107, 101, 100]⟩) 0).name, ((rsetsM (⟨#[117, 110, 108, 111, 99, 107]⟩) (⟨#[108, 111, 99, 107, 101, 100]⟩) 0).param), (rsetsM (⟨#[117, 110, 108, 111, 99, 107]⟩) (⟨#[108, 111, 99, 107, 101, 100]⟩) 0).effects⟩ : Command)]).map Command.cells)), .rv (.sl 1 (([⟨#[106, 97, 109]⟩]).map strC))], .agg (avs (Attr.cells (rnumberM (⟨#[116, 97, 114, 103, 101, 116]⟩) 50 300 true))), .agg (avs (Attr.cells (rnumberM (⟨#[116, 101, 109, 112]⟩) (-500) 1000 false))), .rv (.sl 7 (([(rnumberM (⟨#[116, 97, 114, 103, 101, 116]⟩) 50 300 true), (rnumberM (⟨#[116, 101, 109, 112]⟩) (-500) 1000 false)]).map Attr.cells)), .agg [vs (⟨#[116, 104, 101, 114, 109, 111, 115, 116, 97, 116]⟩), .rv (.sl 7 (([(rnumberM (⟨#[116, 97, 114, 103, 101, 116]⟩) 50 300 true), (rnumberM (⟨#[116, 101, 109, 112]⟩) (-500) 1000 false)]).map Attr.cells)), .rv (.sl 9 (([]).map Command.cells)), .rv (.sl 1 (([]).map strC))], .agg (avs (Attr.cells (rflagM (⟨#[97, 108, 97, 114, 109]⟩) false true))), .rv (.sl 7 (([(rflagM (⟨#[97, 108, 97, 114, 109]⟩) false true)]).map Attr.cells)), .rv (.sl 1 (([⟨#[116, 101, 115, 116]⟩]).map strC)), .agg [vs (⟨#[115, 109, 111, 107, 101]⟩), .rv (.sl 7 (([(rflagM (⟨#[97, 108, 97, 114, 109]⟩) false true)]).map Attr.cells)), .rv (.sl 9 (([]).map Command.cells)), .rv (.sl 1 (([⟨#[116, 101, 115, 116]⟩]).map strC))], .agg (avs (Attr.cells (rflagM (⟨#[119, 101, 116]⟩) false true))), .rv (.sl 7 (([(rflagM (⟨#[119, 101, 116]⟩) false true)]).map Attr.cells)), .agg [vs (⟨#[108, 101, 97, 107]⟩), .rv (.sl 7 (([(rflagM (⟨#[119, 101, 116]⟩) false true)]).map Attr.cells)), .rv (.sl 9 (([]).map Command.cells)), .rv (.sl 1 (([]).map strC))], .agg (avs (Attr.cells (rflagM (⟨#[111, 112, 101, 110]⟩) true true))), .rv (.sl 7 (([(rflagM (⟨#[111, 112, 101, 110]⟩) true true)]).map Attr.cells)), .agg (avs (Command.cells (rsetsM (⟨#[111, 112, 101, 110]⟩) (⟨#[111, 112, 101, 110]⟩) 1))), .agg (avs (Command.cells (rsetsM (⟨#[99, 108, 111, 115, 101]⟩) (⟨#[111, 112, 101, 110]⟩) 0))), .rv (.sl 9 (([(⟨(rsetsM (⟨#[111, 112, 101, 110]⟩) (⟨#[111, 112, 101, 110]⟩) 1).name, ((rsetsM (⟨#[111, 112, 101, 110]⟩) (⟨#[111, 112, 101, 110]⟩) 1).param), (rsetsM (⟨#[111, 112, 101, 110]⟩) (⟨#[111, 112, 101, 110]⟩) 1).effects⟩ : Command), (⟨(rsetsM (⟨#[99, 108, 111, 115, 101]⟩) (⟨#[111, 112, 101, 110]⟩) 0).name, ((rsetsM (⟨#[99, 108, 111, 115, 101]⟩) (⟨#[111, 112, 101, 110]⟩) 0).param), (rsetsM (⟨#[99, 108, 111, 115, 101]⟩) (⟨#[111, 112, 101, 110]⟩) 0).effects⟩ : Command)]).map Command.cells)), .agg [vs (⟨#[118, 97, 108, 118, 101]⟩), .rv (.sl 7 (([(rflagM (⟨#[111, 112, 101, 110]⟩) true true)]).map Attr.cells)), .rv (.sl 9 (([(⟨(rsetsM (⟨#[111, 112, 101, 110]⟩) (⟨#[111, 112, 101, 110]⟩) 1).name, ((rsetsM (⟨#[111, 112, 101, 110]⟩) (⟨#[111, 112, 101, 110]⟩) 1).param), (rsetsM (⟨#[111, 112, 101, 110]⟩) (⟨#[111, 112, 101, 110]⟩) 1).effects⟩ : Command), (⟨(rsetsM (⟨#[99, 108, 111, 115, 101]⟩) (⟨#[111, 112, 101, 110]⟩) 0).name, ((rsetsM (⟨#[99, 108, 111, 115, 101]⟩) (⟨#[111, 112, 101, 110]⟩) 0).param), (rsetsM (⟨#[99, 108, 111, 115, 101]⟩) (⟨#[111, 112, 101, 110]⟩) 0).effects⟩ : Command)]).map Command.cells)), .rv (.sl 1 (([]).map strC))], .agg (avs (Attr.cells (rnumberM (⟨#[112, 111, 119, 101, 114]⟩) 0 100000 false))), .rv (.sl 7 (([(rnumberM (⟨#[112, 111, 119, 101, 114]⟩) 0 100000 false)]).map Attr.cells)), .agg [vs (⟨#[109, 101, 116, 101, 114]⟩), .rv (.sl 7 (([(rnumberM (⟨#[112, 111, 119, 101, 114]⟩) 0 100000 false)]).map Attr.cells)), .rv (.sl 9 (([]).map Command.cells)), .rv (.sl 1 (([]).map strC))], .rv (.sl 4 (([(⟨⟨#[111, 110, 111, 102, 102]⟩, [(rflagM (⟨#[111, 110]⟩) true false)], [(⟨(rsetsM (⟨#[111, 110]⟩) (⟨#[111, 110]⟩) 1).name, ((rsetsM (⟨#[111, 110]⟩) (⟨#[111, 110]⟩) 1).param), (rsetsM (⟨#[111, 110]⟩) (⟨#[111, 110]⟩) 1).effects⟩ : Command), (⟨(rsetsM (⟨#[111, 102, 102]⟩) (⟨#[111, 110]⟩) 0).name, ((rsetsM (⟨#[111, 102, 102]⟩) (⟨#[111, 110]⟩) 0).param), (rsetsM (⟨#[111, 102, 102]⟩) (⟨#[111, 110]⟩) 0).effects⟩ : Command), (⟨⟨#[116, 111, 103, 103, 108, 101]⟩, ⟨⟨#[]⟩, 0, 0, 0, [], false, false⟩, [(⟨4, ⟨#[111, 110]⟩, 0⟩ : Effect)]⟩ : Command)], []⟩ : Cluster), (⟨⟨#[108, 101, 118, 101, 108]⟩, [(rnumberM (⟨#[108, 101, 118, 101, 108]⟩) 0 100 true)], [(⟨⟨#[109, 111, 118, 101]⟩, (rnumberM (⟨#[116, 111]⟩) 0 100 false), [(⟨2, ⟨#[108, 101, 118, 101, 108]⟩, 0⟩ : Effect)]⟩ : Command), (⟨⟨#[115, 116, 101, 112]⟩, ⟨⟨#[]⟩, 0, 0, 0, [], false, false⟩, [(⟨3, ⟨#[108, 101, 118, 101, 108]⟩, 10⟩ : Effect)]⟩ : Command)], []⟩ : Cluster), (⟨⟨#[108, 111, 99, 107]⟩, [(rflagM (⟨#[108, 111, 99, 107, 101, 100]⟩) true true)], [(⟨(rsetsM (⟨#[108, 111, 99, 107]⟩) (⟨#[108, 111, 99, 107, 101, 100]⟩) 1).name, ((rsetsM (⟨#[108, 111, 99, 107]⟩) (⟨#[108, 111, 99, 107, 101, 100]⟩) 1).param), (rsetsM (⟨#[108, 111, 99, 107]⟩) (⟨#[108, 111, 99, 107, 101, 100]⟩) 1).effects⟩ : Command), (⟨(rsetsM (⟨#[117, 110, 108, 111, 99, 107]⟩) (⟨#[108, 111, 99, 107, 101, 100]⟩) 0).name, ((rsetsM (⟨#[117, 110, 108, 111, 99, 107]⟩) (⟨#[108, 111, 99, 107, 101, 100]⟩) 0).param), (rsetsM (⟨#[117, 110, 108, 111, 99, 107]⟩) (⟨#[108, 111, 99, 107, 101, 100]⟩) 0).effects⟩ : Command)], [⟨#[106, 97, 109]⟩]⟩ : Cluster), (⟨⟨#[116, 104, 101, 114, 109, 111, 115, 116, 97, 116]⟩, [(rnumberM (⟨#[116, 97, 114, 103, 101, 116]⟩) 50 300 true), (rnumberM (⟨#[116, 101, 109, 112]⟩) (-500) 1000 false)], [], []⟩ : Cluster), (⟨⟨#[115, 109, 111, 107, 101]⟩, [(rflagM (⟨#[97, 108, 97, 114, 109]⟩) false true)], [], [⟨#[116, 101, 115, 116]⟩]⟩ : Cluster), (⟨⟨#[108, 101, 97, 107]⟩, [(rflagM (⟨#[119, 101, 116]⟩) false true)], [], []⟩ : Cluster), (⟨⟨#[118, 97, 108, 118, 101]⟩, [(rflagM (⟨#[111, 112, 101, 110]⟩) true true)], [(⟨(rsetsM (⟨#[111, 112, 101, 110]⟩) (⟨#[111, 112, 101, 110]⟩) 1).name, ((rsetsM (⟨#[111, 112, 101, 110]⟩) (⟨#[111, 112, 101, 110]⟩) 1).param), (rsetsM (⟨#[111, 112, 101, 110]⟩) (⟨#[111, 112, 101, 110]⟩) 1).effects⟩ : Command), (⟨(rsetsM (⟨#[99, 108, 111, 115, 101]⟩) (⟨#[111, 112, 101, 110]⟩) 0).name, ((rsetsM (⟨#[99, 108, 111, 115, 101]⟩) (⟨#[111, 112, 101, 110]⟩) 0).param), (rsetsM (⟨#[99, 108, 111, 115, 101]⟩) (⟨#[111, 112, 101, 110]⟩) 0).effects⟩ : Command)], []⟩ : Cluster), (⟨⟨#[109, 101, 116, 101, 114]⟩, [(rnumberM (⟨#[112, 111, 119, 101, 114]⟩) 0 100000 false)], [], []⟩ : Cluster)]).map Cluster.cells)), .rv (.sl 4 (([(⟨⟨#[111, 110, 111, 102, 102]⟩, [(rflagM (⟨#[111, 110]⟩) true false)], [(⟨(rsetsM (⟨#[111, 110]⟩) (⟨#[111, 110]⟩) 1).name, ((rsetsM (⟨#[111, 110]⟩) (⟨#[111, 110]⟩) 1).param), (rsetsM (⟨#[111, 110]⟩) (⟨#[111, 110]⟩) 1).effects⟩ : Command), (⟨(rsetsM (⟨#[111, 102, 102]⟩) (⟨#[111, 110]⟩) 0).name, ((rsetsM (⟨#[111, 102, 102]⟩) (⟨#[111, 110]⟩) 0).param), (rsetsM (⟨#[111, 102, 102]⟩) (⟨#[111, 110]⟩) 0).effects⟩ : Command), (⟨⟨#[116, 111, 103, 103, 108, 101]⟩, ⟨⟨#[]⟩, 0, 0, 0, [], false, false⟩, [(⟨4, ⟨#[111, 110]⟩, 0⟩ : Effect)]⟩ : Command)], []⟩ : Cluster), (⟨⟨#[108, 101, 118, 101, 108]⟩, [(rnumberM (⟨#[108, 101, 118, 101, 108]⟩) 0 100 true)], [(⟨⟨#[109, 111, 118, 101]⟩, (rnumberM (⟨#[116, 111]⟩) 0 100 false), [(⟨2, ⟨#[108, 101, 118, 101, 108]⟩, 0⟩ : Effect)]⟩ : Command), (⟨⟨#[115, 116, 101, 112]⟩, ⟨⟨#[]⟩, 0, 0, 0, [], false, false⟩, [(⟨3, ⟨#[108, 101, 118, 101, 108]⟩, 10⟩ : Effect)]⟩ : Command)], []⟩ : Cluster), (⟨⟨#[108, 111, 99, 107]⟩, [(rflagM (⟨#[108, 111, 99, 107, 101, 100]⟩) true true)], [(⟨(rsetsM (⟨#[108, 111, 99, 107]⟩) (⟨#[108, 111, 99, 107, 101, 100]⟩) 1).name, ((rsetsM (⟨#[108, 111, 99, 107]⟩) (⟨#[108, 111, 99, 107, 101, 100]⟩) 1).param), (rsetsM (⟨#[108, 111, 99, 107]⟩) (⟨#[108, 111, 99, 107, 101, 100]⟩) 1).effects⟩ : Command), (⟨(rsetsM (⟨#[117, 110, 108, 111, 99, 107]⟩) (⟨#[108, 111, 99, 107, 101, 100]⟩) 0).name, ((rsetsM (⟨#[117, 110, 108, 111, 99, 107]⟩) (⟨#[108, 111, 99, 107, 101, 100]⟩) 0).param), (rsetsM (⟨#[117, 110, 108, 111, 99, 107]⟩) (⟨#[108, 111, 99, 107, 101, 100]⟩) 0).effects⟩ : Command)], [⟨#[106, 97, 109]⟩]⟩ : Cluster), (⟨⟨#[116, 104, 101, 114, 109, 111, 115, 116, 97, 116]⟩, [(rnumberM (⟨#[116, 97, 114, 103, 101, 116]⟩) 50 300 true), (rnumberM (⟨#[116, 101, 109, 112]⟩) (-500) 1000 false)], [], []⟩ : Cluster), (⟨⟨#[115, 109, 111, 107, 101]⟩, [(rflagM (⟨#[97, 108, 97, 114, 109]⟩) false true)], [], [⟨#[116, 101, 115, 116]⟩]⟩ : Cluster), (⟨⟨#[108, 101, 97, 107]⟩, [(rflagM (⟨#[119, 101, 116]⟩) false true)], [], []⟩ : Cluster), (⟨⟨#[118, 97, 108, 118, 101]⟩, [(rflagM (⟨#[111, 112, 101, 110]⟩) true true)], [(⟨(rsetsM (⟨#[111, 112, 101, 110]⟩) (⟨#[111, 112, 101, 110]⟩) 1).name, ((rsetsM (⟨#[111, 112, 101, 110]⟩) (⟨#[111, 112, 101, 110]⟩) 1).param), (rsetsM (⟨#[111, 112, 101, 110]⟩) (⟨#[111, 112, 101, 110]⟩) 1).effects⟩ : Command), (⟨(rsetsM (⟨#[99, 108, 111, 115, 101]⟩) (⟨#[111, 112, 101, 110]⟩) 0).name, ((rsetsM (⟨#[99, 108, 111, 115, 101]⟩) (⟨#[111, 112, 101, 110]⟩) 0).param), (rsetsM (⟨#[99, 108, 111, 115, 101]⟩) (⟨#[111, 112, 101, 110]⟩) 0).effects⟩ : Command)], []⟩ : Cluster), (⟨⟨#[109, 101, 116, 101, 114]⟩, [(rnumberM (⟨#[112, 111, 119, 101, 114]⟩) 0 100000 false)], [], []⟩ : Cluster)]).map Cluster.cells))] 55 [(0, .rv (.sl 4 (([(⟨⟨#[111, 110, 111, 102, 102]⟩, [(rflagM (⟨#[111, 110]⟩) true false)], [(⟨(rsetsM (⟨#[111, 110]⟩) (⟨#[111, 110]⟩) 1).name, ((rsetsM (⟨#[111, 110]⟩) (⟨#[111, 110]⟩) 1).param), (rsetsM (⟨#[111, 110]⟩) (⟨#[111, 110]⟩) 1).effects⟩ : Command), (⟨(rsetsM (⟨#[111, 102, 102]⟩) (⟨#[111, 110]⟩) 0).name, ((rsetsM (⟨#[111, 102, 102]⟩) (⟨#[111, 110]⟩) 0).param), (rsetsM (⟨#[111, 102, 102]⟩) (⟨#[111, 110]⟩) 0).effects⟩ : Command), (⟨⟨#[116, 111, 103, 103, 108, 101]⟩, ⟨⟨#[]⟩, 0, 0, 0, [], false, false⟩, [(⟨4, ⟨#[111, 110]⟩, 0⟩ : Effect)]⟩ : Command)], []⟩ : Cluster), (⟨⟨#[108, 101, 118, 101, 108]⟩, [(rnumberM (⟨#[108, 101, 118, 101, 108]⟩) 0 100 true)], [(⟨⟨#[109, 111, 118, 101]⟩, (rnumberM (⟨#[116, 111]⟩) 0 100 false), [(⟨2, ⟨#[108, 101, 118, 101, 108]⟩, 0⟩ : Effect)]⟩ : Command), (⟨⟨#[115, 116, 101, 112]⟩, ⟨⟨#[]⟩, 0, 0, 0, [], false, false⟩, [(⟨3, ⟨#[108, 101, 118, 101, 108]⟩, 10⟩ : Effect)]⟩ : Command)], []⟩ : Cluster), (⟨⟨#[108, 111, 99, 107]⟩, [(rflagM (⟨#[108, 111, 99, 107, 101, 100]⟩) true true)], [(⟨(rsetsM (⟨#[108, 111, 99, 107]⟩) (⟨#[108, 111, 99, 107, 101, 100]⟩) 1).name, ((rsetsM (⟨#[108, 111, 99, 107]⟩) (⟨#[108, 111, 99, 107, 101, 100]⟩) 1).param), (rsetsM (⟨#[108, 111, 99, 107]⟩) (⟨#[108, 111, 99, 107, 101, 100]⟩) 1).effects⟩ : Command), (⟨(rsetsM (⟨#[117, 110, 108, 111, 99, 107]⟩) (⟨#[108, 111, 99, 107, 101, 100]⟩) 0).name, ((rsetsM (⟨#[117, 110, 108, 111, 99, 107]⟩) (⟨#[108, 111, 99, 107, 101, 100]⟩) 0).param), (rsetsM (⟨#[117, 110, 108, 111, 99, 107]⟩) (⟨#[108, 111, 99, 107, 101, 100]⟩) 0).effects⟩ : Command)], [⟨#[106, 97, 109]⟩]⟩ : Cluster), (⟨⟨#[116, 104, 101, 114, 109, 111, 115, 116, 97, 116]⟩, [(rnumberM (⟨#[116, 97, 114, 103, 101, 116]⟩) 50 300 true), (rnumberM (⟨#[116, 101, 109, 112]⟩) (-500) 1000 false)], [], []⟩ : Cluster), (⟨⟨#[115, 109, 111, 107, 101]⟩, [(rflagM (⟨#[97, 108, 97, 114, 109]⟩) false true)], [], [⟨#[116, 101, 115, 116]⟩]⟩ : Cluster), (⟨⟨#[108, 101, 97, 107]⟩, [(rflagM (⟨#[119, 101, 116]⟩) false true)], [], []⟩ : Cluster), (⟨⟨#[118, 97, 108, 118, 101]⟩, [(rflagM (⟨#[111, 112, 101, 110]⟩) true true)], [(⟨(rsetsM (⟨#[111, 112, 101, 110]⟩) (⟨#[111, 112, 101, 110]⟩) 1).name, ((rsetsM (⟨#[111, 112, 101, 110]⟩) (⟨#[111, 112, 101, 110]⟩) 1).param), (rsetsM (⟨#[111, 112, 101, 110]⟩) (⟨#[111, 112, 101, 110]⟩) 1).effects⟩ : Command), (⟨(rsetsM (⟨#[99, 108, 111, 115, 101]⟩) (⟨#[111, 112, 101, 110]⟩) 0).name, ((rsetsM (⟨#[99, 108, 111, 115, 101]⟩) (⟨#[111, 112, 101, 110]⟩) 0).param), (rsetsM (⟨#[99, 108, 111, 115, 101]⟩) (⟨#[111, 112, 101, 110]⟩) 0).effects⟩ : Command)], []⟩ : Cluster), (⟨⟨#[109, 101, 116, 101, 114]⟩, [(rnumberM (⟨#[112, 111, 119, 101, 114]⟩) 0 100000 false)], [], []⟩ : Cluster)]).map Cluster.cells)))] [] 3 ?_ ?_
 ·
  refine DSteps.cons (DStep.call rfl (by kernel_rfl) (by kernel_rfl) (by kernel_rfl) (args := [vs (⟨#[111, 110]⟩), vb true, vb false]) (by kernel_rfl) (by kernel_rfl) (rflagM_ok (⟨#[111, 110]⟩) true false) (by kernel_rfl) (Nat.le_of_ble_eq_true (by kernel_rfl))) ?_
  refine DSteps.cons (DStep.row (t := 48) (by kernel_rfl) (R_buildSliceC (es := List.map Attr.cells [(rflagM (⟨#[111, 110]⟩) true false)]) rfl (by kernel_rfl))) ?_
  refine DSteps.cons (DStep.call rfl (by kernel_rfl) (by kernel_rfl) (by kernel_rfl) (args := [vs (⟨#[111, 110]⟩), vs (⟨#[111, 110]⟩), vi 1]) (by kernel_rfl) (by kernel_rfl) (rsetsM_ok (⟨#[111, 110]⟩) (⟨#[111, 110]⟩) 1) (by kernel_rfl) (Nat.le_of_ble_eq_true (by kernel_rfl))) ?_
  refine DSteps.cons (DStep.call rfl (by kernel_rfl) (by kernel_rfl) (by kernel_rfl) (args := [vs (⟨#[111, 102, 102]⟩), vs (⟨#[111, 110]⟩), vi 0]) (by kernel_rfl) (by kernel_rfl) (rsetsM_ok (⟨#[111, 102, 102]⟩) (⟨#[111, 110]⟩) 0) (by kernel_rfl) (Nat.le_of_ble_eq_true (by kernel_rfl))) ?_
  refine DSteps.cons (DStep.nl [none, none, none, none, none, some 1, none, none, none] (DStep.va (v := .agg [vs (⟨#[116, 111, 103, 103, 108, 101]⟩), vs (⟨#[]⟩), vi 0, vi 0, vi 0, .rv (.v (.slice none 0 0)), vb false, vb false, .rv (.sl 3 (([(⟨4, ⟨#[111, 110]⟩, 0⟩ : Effect)]).map Effect.cells))]))) ?_
  refine DSteps.cons (DStep.row (t := 89) (by kernel_rfl) (R_buildSliceC (es := List.map Command.cells [(⟨(rsetsM (⟨#[111, 110]⟩) (⟨#[111, 110]⟩) 1).name, ((rsetsM (⟨#[111, 110]⟩) (⟨#[111, 110]⟩) 1).param), (rsetsM (⟨#[111, 110]⟩) (⟨#[111, 110]⟩) 1).effects⟩ : Command), (⟨(rsetsM (⟨#[111, 102, 102]⟩) (⟨#[111, 110]⟩) 0).name, ((rsetsM (⟨#[111, 102, 102]⟩) (⟨#[111, 110]⟩) 0).param), (rsetsM (⟨#[111, 102, 102]⟩) (⟨#[111, 110]⟩) 0).effects⟩ : Command), (⟨⟨#[116, 111, 103, 103, 108, 101]⟩, ⟨⟨#[]⟩, 0, 0, 0, [], false, false⟩, [(⟨4, ⟨#[111, 110]⟩, 0⟩ : Effect)]⟩ : Command)]) rfl (by kernel_rfl))) ?_
  refine DSteps.cons (DStep.nl [none, none, none, some 1] (DStep.va (v := .agg [vs (⟨#[111, 110, 111, 102, 102]⟩), .rv (.sl 7 (([(rflagM (⟨#[111, 110]⟩) true false)]).map Attr.cells)), .rv (.sl 9 (([(⟨(rsetsM (⟨#[111, 110]⟩) (⟨#[111, 110]⟩) 1).name, ((rsetsM (⟨#[111, 110]⟩) (⟨#[111, 110]⟩) 1).param), (rsetsM (⟨#[111, 110]⟩) (⟨#[111, 110]⟩) 1).effects⟩ : Command), (⟨(rsetsM (⟨#[111, 102, 102]⟩) (⟨#[111, 110]⟩) 0).name, ((rsetsM (⟨#[111, 102, 102]⟩) (⟨#[111, 110]⟩) 0).param), (rsetsM (⟨#[111, 102, 102]⟩) (⟨#[111, 110]⟩) 0).effects⟩ : Command), (⟨⟨#[116, 111, 103, 103, 108, 101]⟩, ⟨⟨#[]⟩, 0, 0, 0, [], false, false⟩, [(⟨4, ⟨#[111, 110]⟩, 0⟩ : Effect)]⟩ : Command)]).map Command.cells)), .rv (.v (.slice none 0 0))]))) ?_
  refine DSteps.cons (DStep.call rfl (by kernel_rfl) (by kernel_rfl) (by kernel_rfl) (args := [vs (⟨#[108, 101, 118, 101, 108]⟩), vi 0, vi 100, vb true]) (by kernel_rfl) (by kernel_rfl) (rnumberM_ok (⟨#[108, 101, 118, 101, 108]⟩) 0 100 true) (by kernel_rfl) (Nat.le_of_ble_eq_true (by kernel_rfl))) ?_
  refine DSteps.cons (DStep.row (t := 48) (by kernel_rfl) (R_buildSliceC (es := List.map Attr.cells [(rnumberM (⟨#[108, 101, 118, 101, 108]⟩) 0 100 true)]) rfl (by kernel_rfl))) ?_
  refine DSteps.cons (DStep.va) ?_
  refine DSteps.cons (DStep.nl [none, none, none, none, none, some 1, none, none, none] (DStep.va (v := .agg [vs (⟨#[115, 116, 101, 112]⟩), vs (⟨#[]⟩), vi 0, vi 0, vi 0, .rv (.v (.slice none 0 0)), vb false, vb false, .rv (.sl 3 (([(⟨3, ⟨#[108, 101, 118, 101, 108]⟩, 10⟩ : Effect)]).map Effect.cells))]))) ?_
  refine DSteps.cons (DStep.row (t := 89) (by kernel_rfl) (R_buildSliceC (es := List.map Command.cells [(⟨⟨#[109, 111, 118, 101]⟩, (rnumberM (⟨#[116, 111]⟩) 0 100 false), [(⟨2, ⟨#[108, 101, 118, 101, 108]⟩, 0⟩ : Effect)]⟩ : Command), (⟨⟨#[115, 116, 101, 112]⟩, ⟨⟨#[]⟩, 0, 0, 0, [], false, false⟩, [(⟨3, ⟨#[108, 101, 118, 101, 108]⟩, 10⟩ : Effect)]⟩ : Command)]) rfl (by kernel_rfl))) ?_
  refine DSteps.cons (DStep.nl [none, none, none, some 1] (DStep.va (v := .agg [vs (⟨#[108, 101, 118, 101, 108]⟩), .rv (.sl 7 (([(rnumberM (⟨#[108, 101, 118, 101, 108]⟩) 0 100 true)]).map Attr.cells)), .rv (.sl 9 (([(⟨⟨#[109, 111, 118, 101]⟩, (rnumberM (⟨#[116, 111]⟩) 0 100 false), [(⟨2, ⟨#[108, 101, 118, 101, 108]⟩, 0⟩ : Effect)]⟩ : Command), (⟨⟨#[115, 116, 101, 112]⟩, ⟨⟨#[]⟩, 0, 0, 0, [], false, false⟩, [(⟨3, ⟨#[108, 101, 118, 101, 108]⟩, 10⟩ : Effect)]⟩ : Command)]).map Command.cells)), .rv (.v (.slice none 0 0))]))) ?_
  refine DSteps.cons (DStep.call rfl (by kernel_rfl) (by kernel_rfl) (by kernel_rfl) (args := [vs (⟨#[108, 111, 99, 107, 101, 100]⟩), vb true, vb true]) (by kernel_rfl) (by kernel_rfl) (rflagM_ok (⟨#[108, 111, 99, 107, 101, 100]⟩) true true) (by kernel_rfl) (Nat.le_of_ble_eq_true (by kernel_rfl))) ?_
  refine DSteps.cons (DStep.row (t := 48) (by kernel_rfl) (R_buildSliceC (es := List.map Attr.cells [(rflagM (⟨#[108, 111, 99, 107, 101, 100]⟩) true true)]) rfl (by kernel_rfl))) ?_
  refine DSteps.cons (DStep.call rfl (by kernel_rfl) (by kernel_rfl) (by kernel_rfl) (args := [vs (⟨#[108, 111, 99, 107]⟩), vs (⟨#[108, 111, 99, 107, 101, 100]⟩), vi 1]) (by kernel_rfl) (by kernel_rfl) (rsetsM_ok (⟨#[108, 111, 99, 107]⟩) (⟨#[108, 111, 99, 107, 101, 100]⟩) 1) (by kernel_rfl) (Nat.le_of_ble_eq_true (by kernel_rfl))) ?_
  refine DSteps.cons (DStep.call rfl (by kernel_rfl) (by kernel_rfl) (by kernel_rfl) (args := [vs (⟨#[117, 110, 108, 111, 99, 107]⟩), vs (⟨#[108, 111, 99, 107, 101, 100]⟩), vi 0]) (by kernel_rfl) (by kernel_rfl) (rsetsM_ok (⟨#[117, 110, 108, 111, 99, 107]⟩) (⟨#[108, 111, 99, 107, 101, 100]⟩) 0) (by kernel_rfl) (Nat.le_of_ble_eq_true (by kernel_rfl))) ?_
  refine DSteps.cons (DStep.row (t := 89) (by kernel_rfl) (R_buildSliceC (es := List.map Command.cells [(⟨(rsetsM (⟨#[108, 111, 99, 107]⟩) (⟨#[108, 111, 99, 107, 101, 100]⟩) 1).name, ((rsetsM (⟨#[108, 111, 99, 107]⟩) (⟨#[108, 111, 99, 107, 101, 100]⟩) 1).param), (rsetsM (⟨#[108, 111, 99, 107]⟩) (⟨#[108, 111, 99, 107, 101, 100]⟩) 1).effects⟩ : Command), (⟨(rsetsM (⟨#[117, 110, 108, 111, 99, 107]⟩) (⟨#[108, 111, 99, 107, 101, 100]⟩) 0).name, ((rsetsM (⟨#[117, 110, 108, 111, 99, 107]⟩) (⟨#[108, 111, 99, 107, 101, 100]⟩) 0).param), (rsetsM (⟨#[117, 110, 108, 111, 99, 107]⟩) (⟨#[108, 111, 99, 107, 101, 100]⟩) 0).effects⟩ : Command)]) rfl (by kernel_rfl))) ?_
  refine DSteps.cons (DStep.row (t := 9) (by kernel_rfl) (R_buildSliceC (es := List.map strC [⟨#[106, 97, 109]⟩]) rfl (by kernel_rfl))) ?_
  refine DSteps.cons (DStep.va) ?_
  refine DSteps.cons (DStep.call rfl (by kernel_rfl) (by kernel_rfl) (by kernel_rfl) (args := [vs (⟨#[116, 97, 114, 103, 101, 116]⟩), vi 50, vi 300, vb true]) (by kernel_rfl) (by kernel_rfl) (rnumberM_ok (⟨#[116, 97, 114, 103, 101, 116]⟩) 50 300 true) (by kernel_rfl) (Nat.le_of_ble_eq_true (by kernel_rfl))) ?_
  refine DSteps.cons (DStep.call rfl (by kernel_rfl) (by kernel_rfl) (by kernel_rfl) (args := [vs (⟨#[116, 101, 109, 112]⟩), vi (-500), vi 1000, vb false]) (by kernel_rfl) (by kernel_rfl) (rnumberM_ok (⟨#[116, 101, 109, 112]⟩) (-500) 1000 false) (by kernel_rfl) (Nat.le_of_ble_eq_true (by kernel_rfl))) ?_
  refine DSteps.cons (DStep.row (t := 48) (by kernel_rfl) (R_buildSliceC (es := List.map Attr.cells [(rnumberM (⟨#[116, 97, 114, 103, 101, 116]⟩) 50 300 true), (rnumberM (⟨#[116, 101, 109, 112]⟩) (-500) 1000 false)]) rfl (by kernel_rfl))) ?_
  refine DSteps.cons (DStep.nl [none, none, some 9, some 1] (DStep.va (v := .agg [vs (⟨#[116, 104, 101, 114, 109, 111, 115, 116, 97, 116]⟩), .rv (.sl 7 (([(rnumberM (⟨#[116, 97, 114, 103, 101, 116]⟩) 50 300 true), (rnumberM (⟨#[116, 101, 109, 112]⟩) (-500) 1000 false)]).map Attr.cells)), .rv (.v (.slice none 0 0)), .rv (.v (.slice none 0 0))]))) ?_
  refine DSteps.cons (DStep.call rfl (by kernel_rfl) (by kernel_rfl) (by kernel_rfl) (args := [vs (⟨#[97, 108, 97, 114, 109]⟩), vb false, vb true]) (by kernel_rfl) (by kernel_rfl) (rflagM_ok (⟨#[97, 108, 97, 114, 109]⟩) false true) (by kernel_rfl) (Nat.le_of_ble_eq_true (by kernel_rfl))) ?_
  refine DSteps.cons (DStep.row (t := 48) (by kernel_rfl) (R_buildSliceC (es := List.map Attr.cells [(rflagM (⟨#[97, 108, 97, 114, 109]⟩) false true)]) rfl (by kernel_rfl))) ?_
  refine DSteps.cons (DStep.row (t := 9) (by kernel_rfl) (R_buildSliceC (es := List.map strC [⟨#[116, 101, 115, 116]⟩]) rfl (by kernel_rfl))) ?_
  refine DSteps.cons (DStep.nl [none, none, some 9, none] (DStep.va (v := .agg [vs (⟨#[115, 109, 111, 107, 101]⟩), .rv (.sl 7 (([(rflagM (⟨#[97, 108, 97, 114, 109]⟩) false true)]).map Attr.cells)), .rv (.v (.slice none 0 0)), .rv (.sl 1 (([⟨#[116, 101, 115, 116]⟩]).map strC))]))) ?_
  refine DSteps.cons (DStep.call rfl (by kernel_rfl) (by kernel_rfl) (by kernel_rfl) (args := [vs (⟨#[119, 101, 116]⟩), vb false, vb true]) (by kernel_rfl) (by kernel_rfl) (rflagM_ok (⟨#[119, 101, 116]⟩) false true) (by kernel_rfl) (Nat.le_of_ble_eq_true (by kernel_rfl))) ?_
  refine DSteps.cons (DStep.row (t := 48) (by kernel_rfl) (R_buildSliceC (es := List.map Attr.cells [(rflagM (⟨#[119, 101, 116]⟩) false true)]) rfl (by kernel_rfl))) ?_
  refine DSteps.cons (DStep.nl [none, none, some 9, some 1] (DStep.va (v := .agg [vs (⟨#[108, 101, 97, 107]⟩), .rv (.sl 7 (([(rflagM (⟨#[119, 101, 116]⟩) false true)]).map Attr.cells)), .rv (.v (.slice none 0 0)), .rv (.v (.slice none 0 0))]))) ?_
  refine DSteps.cons (DStep.call rfl (by kernel_rfl) (by kernel_rfl) (by kernel_rfl) (args := [vs (⟨#[111, 112, 101, 110]⟩), vb true, vb true]) (by kernel_rfl) (by kernel_rfl) (rflagM_ok (⟨#[111, 112, 101, 110]⟩) true true) (by kernel_rfl) (Nat.le_of_ble_eq_true (by kernel_rfl))) ?_
  refine DSteps.cons (DStep.row (t := 48) (by kernel_rfl) (R_buildSliceC (es := List.map Attr.cells [(rflagM (⟨#[111, 112, 101, 110]⟩) true true)]) rfl (by kernel_rfl))) ?_
  refine DSteps.cons (DStep.call rfl (by kernel_rfl) (by kernel_rfl) (by kernel_rfl) (args := [vs (⟨#[111, 112, 101, 110]⟩), vs (⟨#[111, 112, 101, 110]⟩), vi 1]) (by kernel_rfl) (by kernel_rfl) (rsetsM_ok (⟨#[111, 112, 101, 110]⟩) (⟨#[111, 112, 101, 110]⟩) 1) (by kernel_rfl) (Nat.le_of_ble_eq_true (by kernel_rfl))) ?_
  refine DSteps.cons (DStep.call rfl (by kernel_rfl) (by kernel_rfl) (by kernel_rfl) (args := [vs (⟨#[99, 108, 111, 115, 101]⟩), vs (⟨#[111, 112, 101, 110]⟩), vi 0]) (by kernel_rfl) (by kernel_rfl) (rsetsM_ok (⟨#[99, 108, 111, 115, 101]⟩) (⟨#[111, 112, 101, 110]⟩) 0) (by kernel_rfl) (Nat.le_of_ble_eq_true (by kernel_rfl))) ?_
  refine DSteps.cons (DStep.row (t := 89) (by kernel_rfl) (R_buildSliceC (es := List.map Command.cells [(⟨(rsetsM (⟨#[111, 112, 101, 110]⟩) (⟨#[111, 112, 101, 110]⟩) 1).name, ((rsetsM (⟨#[111, 112, 101, 110]⟩) (⟨#[111, 112, 101, 110]⟩) 1).param), (rsetsM (⟨#[111, 112, 101, 110]⟩) (⟨#[111, 112, 101, 110]⟩) 1).effects⟩ : Command), (⟨(rsetsM (⟨#[99, 108, 111, 115, 101]⟩) (⟨#[111, 112, 101, 110]⟩) 0).name, ((rsetsM (⟨#[99, 108, 111, 115, 101]⟩) (⟨#[111, 112, 101, 110]⟩) 0).param), (rsetsM (⟨#[99, 108, 111, 115, 101]⟩) (⟨#[111, 112, 101, 110]⟩) 0).effects⟩ : Command)]) rfl (by kernel_rfl))) ?_
  refine DSteps.cons (DStep.nl [none, none, none, some 1] (DStep.va (v := .agg [vs (⟨#[118, 97, 108, 118, 101]⟩), .rv (.sl 7 (([(rflagM (⟨#[111, 112, 101, 110]⟩) true true)]).map Attr.cells)), .rv (.sl 9 (([(⟨(rsetsM (⟨#[111, 112, 101, 110]⟩) (⟨#[111, 112, 101, 110]⟩) 1).name, ((rsetsM (⟨#[111, 112, 101, 110]⟩) (⟨#[111, 112, 101, 110]⟩) 1).param), (rsetsM (⟨#[111, 112, 101, 110]⟩) (⟨#[111, 112, 101, 110]⟩) 1).effects⟩ : Command), (⟨(rsetsM (⟨#[99, 108, 111, 115, 101]⟩) (⟨#[111, 112, 101, 110]⟩) 0).name, ((rsetsM (⟨#[99, 108, 111, 115, 101]⟩) (⟨#[111, 112, 101, 110]⟩) 0).param), (rsetsM (⟨#[99, 108, 111, 115, 101]⟩) (⟨#[111, 112, 101, 110]⟩) 0).effects⟩ : Command)]).map Command.cells)), .rv (.v (.slice none 0 0))]))) ?_
  refine DSteps.cons (DStep.call rfl (by kernel_rfl) (by kernel_rfl) (by kernel_rfl) (args := [vs (⟨#[112, 111, 119, 101, 114]⟩), vi 0, vi 100000, vb false]) (by kernel_rfl) (by kernel_rfl) (rnumberM_ok (⟨#[112, 111, 119, 101, 114]⟩) 0 100000 false) (by kernel_rfl) (Nat.le_of_ble_eq_true (by kernel_rfl))) ?_
  refine DSteps.cons (DStep.row (t := 48) (by kernel_rfl) (R_buildSliceC (es := List.map Attr.cells [(rnumberM (⟨#[112, 111, 119, 101, 114]⟩) 0 100000 false)]) rfl (by kernel_rfl))) ?_
  refine DSteps.cons (DStep.nl [none, none, some 9, some 1] (DStep.va (v := .agg [vs (⟨#[109, 101, 116, 101, 114]⟩), .rv (.sl 7 (([(rnumberM (⟨#[112, 111, 119, 101, 114]⟩) 0 100000 false)]).map Attr.cells)), .rv (.v (.slice none 0 0)), .rv (.v (.slice none 0 0))]))) ?_
  refine DSteps.cons (DStep.row (t := 46) (by kernel_rfl) (R_buildSliceC (es := List.map Cluster.cells [(⟨⟨#[111, 110, 111, 102, 102]⟩, [(rflagM (⟨#[111, 110]⟩) true false)], [(⟨(rsetsM (⟨#[111, 110]⟩) (⟨#[111, 110]⟩) 1).name, ((rsetsM (⟨#[111, 110]⟩) (⟨#[111, 110]⟩) 1).param), (rsetsM (⟨#[111, 110]⟩) (⟨#[111, 110]⟩) 1).effects⟩ : Command), (⟨(rsetsM (⟨#[111, 102, 102]⟩) (⟨#[111, 110]⟩) 0).name, ((rsetsM (⟨#[111, 102, 102]⟩) (⟨#[111, 110]⟩) 0).param), (rsetsM (⟨#[111, 102, 102]⟩) (⟨#[111, 110]⟩) 0).effects⟩ : Command), (⟨⟨#[116, 111, 103, 103, 108, 101]⟩, ⟨⟨#[]⟩, 0, 0, 0, [], false, false⟩, [(⟨4, ⟨#[111, 110]⟩, 0⟩ : Effect)]⟩ : Command)], []⟩ : Cluster), (⟨⟨#[108, 101, 118, 101, 108]⟩, [(rnumberM (⟨#[108, 101, 118, 101, 108]⟩) 0 100 true)], [(⟨⟨#[109, 111, 118, 101]⟩, (rnumberM (⟨#[116, 111]⟩) 0 100 false), [(⟨2, ⟨#[108, 101, 118, 101, 108]⟩, 0⟩ : Effect)]⟩ : Command), (⟨⟨#[115, 116, 101, 112]⟩, ⟨⟨#[]⟩, 0, 0, 0, [], false, false⟩, [(⟨3, ⟨#[108, 101, 118, 101, 108]⟩, 10⟩ : Effect)]⟩ : Command)], []⟩ : Cluster), (⟨⟨#[108, 111, 99, 107]⟩, [(rflagM (⟨#[108, 111, 99, 107, 101, 100]⟩) true true)], [(⟨(rsetsM (⟨#[108, 111, 99, 107]⟩) (⟨#[108, 111, 99, 107, 101, 100]⟩) 1).name, ((rsetsM (⟨#[108, 111, 99, 107]⟩) (⟨#[108, 111, 99, 107, 101, 100]⟩) 1).param), (rsetsM (⟨#[108, 111, 99, 107]⟩) (⟨#[108, 111, 99, 107, 101, 100]⟩) 1).effects⟩ : Command), (⟨(rsetsM (⟨#[117, 110, 108, 111, 99, 107]⟩) (⟨#[108, 111, 99, 107, 101, 100]⟩) 0).name, ((rsetsM (⟨#[117, 110, 108, 111, 99, 107]⟩) (⟨#[108, 111, 99, 107, 101, 100]⟩) 0).param), (rsetsM (⟨#[117, 110, 108, 111, 99, 107]⟩) (⟨#[108, 111, 99, 107, 101, 100]⟩) 0).effects⟩ : Command)], [⟨#[106, 97, 109]⟩]⟩ : Cluster), (⟨⟨#[116, 104, 101, 114, 109, 111, 115, 116, 97, 116]⟩, [(rnumberM (⟨#[116, 97, 114, 103, 101, 116]⟩) 50 300 true), (rnumberM (⟨#[116, 101, 109, 112]⟩) (-500) 1000 false)], [], []⟩ : Cluster), (⟨⟨#[115, 109, 111, 107, 101]⟩, [(rflagM (⟨#[97, 108, 97, 114, 109]⟩) false true)], [], [⟨#[116, 101, 115, 116]⟩]⟩ : Cluster), (⟨⟨#[108, 101, 97, 107]⟩, [(rflagM (⟨#[119, 101, 116]⟩) false true)], [], []⟩ : Cluster), (⟨⟨#[118, 97, 108, 118, 101]⟩, [(rflagM (⟨#[111, 112, 101, 110]⟩) true true)], [(⟨(rsetsM (⟨#[111, 112, 101, 110]⟩) (⟨#[111, 112, 101, 110]⟩) 1).name, ((rsetsM (⟨#[111, 112, 101, 110]⟩) (⟨#[111, 112, 101, 110]⟩) 1).param), (rsetsM (⟨#[111, 112, 101, 110]⟩) (⟨#[111, 112, 101, 110]⟩) 1).effects⟩ : Command), (⟨(rsetsM (⟨#[99, 108, 111, 115, 101]⟩) (⟨#[111, 112, 101, 110]⟩) 0).name, ((rsetsM (⟨#[99, 108, 111, 115, 101]⟩) (⟨#[111, 112, 101, 110]⟩) 0).param), (rsetsM (⟨#[99, 108, 111, 115, 101]⟩) (⟨#[111, 112, 101, 110]⟩) 0).effects⟩ : Command)], []⟩ : Cluster), (⟨⟨#[109, 101, 116, 101, 114]⟩, [(rnumberM (⟨#[112, 111, 119, 101, 114]⟩) 0 100000 false)], [], []⟩ : Cluster)]) rfl (by kernel_rfl))) ?_
  refine DSteps.cons (DStep.va) ?_
  exact DSteps.nl
 refine AWp.ret ?_
 exact leafR (r := .rv (.sl 4 (([(⟨⟨#[111, 110, 111, 102, 102]⟩, [(rflagM (⟨#[111, 110]⟩) true false)], [(⟨(rsetsM (⟨#[111, 110]⟩) (⟨#[111, 110]⟩) 1).name, ((rsetsM (⟨#[111, 110]⟩) (⟨#[111, 110]⟩) 1).param), (rsetsM (⟨#[111, 110]⟩) (⟨#[111, 110]⟩) 1).effects⟩ : Command), (⟨(rsetsM (⟨#[111, 102, 102]⟩) (⟨#[111, 110]⟩) 0).name, ((rsetsM (⟨#[111, 102, 102]⟩) (⟨#[111, 110]⟩) 0).param), (rsetsM (⟨#[111, 102, 102]⟩) (⟨#[111, 110]⟩) 0).effects⟩ : Command), (⟨⟨#[116, 111, 103, 103, 108, 101]⟩, ⟨⟨#[]⟩, 0, 0, 0, [], false, false⟩, [(⟨4, ⟨#[111, 110]⟩, 0⟩ : Effect)]⟩ : Command)], []⟩ : Cluster), (⟨⟨#[108, 101, 118, 101, 108]⟩, [(rnumberM (⟨#[108, 101, 118, 101, 108]⟩) 0 100 true)], [(⟨⟨#[109, 111, 118, 101]⟩, (rnumberM (⟨#[116, 111]⟩) 0 100 false), [(⟨2, ⟨#[108, 101, 118, 101, 108]⟩, 0⟩ : Effect)]⟩ : Command), (⟨⟨#[115, 116, 101, 112]⟩, ⟨⟨#[]⟩, 0, 0, 0, [], false, false⟩, [(⟨3, ⟨#[108, 101, 118, 101, 108]⟩, 10⟩ : Effect)]⟩ : Command)], []⟩ : Cluster), (⟨⟨#[108, 111, 99, 107]⟩, [(rflagM (⟨#[108, 111, 99, 107, 101, 100]⟩) true true)], [(⟨(rsetsM (⟨#[108, 111, 99, 107]⟩) (⟨#[108, 111, 99, 107, 101, 100]⟩) 1).name, ((rsetsM (⟨#[108, 111, 99, 107]⟩) (⟨#[108, 111, 99, 107, 101, 100]⟩) 1).param), (rsetsM (⟨#[108, 111, 99, 107]⟩) (⟨#[108, 111, 99, 107, 101, 100]⟩) 1).effects⟩ : Command), (⟨(rsetsM (⟨#[117, 110, 108, 111, 99, 107]⟩) (⟨#[108, 111, 99, 107, 101, 100]⟩) 0).name, ((rsetsM (⟨#[117, 110, 108, 111, 99, 107]⟩) (⟨#[108, 111, 99, 107, 101, 100]⟩) 0).param), (rsetsM (⟨#[117, 110, 108, 111, 99, 107]⟩) (⟨#[108, 111, 99, 107, 101, 100]⟩) 0).effects⟩ : Command)], [⟨#[106, 97, 109]⟩]⟩ : Cluster), (⟨⟨#[116, 104, 101, 114, 109, 111, 115, 116, 97, 116]⟩, [(rnumberM (⟨#[116, 97, 114, 103, 101, 116]⟩) 50 300 true), (rnumberM (⟨#[116, 101, 109, 112]⟩) (-500) 1000 false)], [], []⟩ : Cluster), (⟨⟨#[115, 109, 111, 107, 101]⟩, [(rflagM (⟨#[97, 108, 97, 114, 109]⟩) false true)], [], [⟨#[116, 101, 115, 116]⟩]⟩ : Cluster), (⟨⟨#[108, 101, 97, 107]⟩, [(rflagM (⟨#[119, 101, 116]⟩) false true)], [], []⟩ : Cluster), (⟨⟨#[118, 97, 108, 118, 101]⟩, [(rflagM (⟨#[111, 112, 101, 110]⟩) true true)], [(⟨(rsetsM (⟨#[111, 112, 101, 110]⟩) (⟨#[111, 112, 101, 110]⟩) 1).name, ((rsetsM (⟨#[111, 112, 101, 110]⟩) (⟨#[111, 112, 101, 110]⟩) 1).param), (rsetsM (⟨#[111, 112, 101, 110]⟩) (⟨#[111, 112, 101, 110]⟩) 1).effects⟩ : Command), (⟨(rsetsM (⟨#[99, 108, 111, 115, 101]⟩) (⟨#[111, 112, 101, 110]⟩) 0).name, ((rsetsM (⟨#[99, 108, 111, 115, 101]⟩) (⟨#[111, 112, 101, 110]⟩) 0).param), (rsetsM (⟨#[99, 108, 111, 115, 101]⟩) (⟨#[111, 112, 101, 110]⟩) 0).effects⟩ : Command)], []⟩ : Cluster), (⟨⟨#[109, 101, 116, 101, 114]⟩, [(rnumberM (⟨#[112, 111, 119, 101, 114]⟩) 0 100000 false)], [], []⟩ : Cluster)]).map Cluster.cells))) (by show (.rv (.sl 4 (([(⟨⟨#[111, 110, 111, 102, 102]⟩, [(rflagM (⟨#[111, 110]⟩) true false)], [(⟨(rsetsM (⟨#[111, 110]⟩) (⟨#[111, 110]⟩) 1).name, ((rsetsM (⟨#[111, 110]⟩) (⟨#[111, 110]⟩) 1).param), (rsetsM (⟨#[111, 110]⟩) (⟨#[111, 110]⟩) 1).effects⟩ : Command), (⟨(rsetsM (⟨#[111, 102, 102]⟩) (⟨#[111, 110]⟩) 0).name, ((rsetsM (⟨#[111, 102, 102]⟩) (⟨#[111, 110]⟩) 0).param), (rsetsM (⟨#[111, 102, 102]⟩) (⟨#[111, 110]⟩) 0).effects⟩ : Command), (⟨⟨#[116, 111, 103, 103, 108, 101]⟩, ⟨⟨#[]⟩, 0, 0, 0, [], false, false⟩, [(⟨4, ⟨#[111, 110]⟩, 0⟩ : Effect)]⟩ : Command)], []⟩ : Cluster), (⟨⟨#[108, 101, 118, 101, 108]⟩, [(rnumberM (⟨#[108, 101, 118, 101, 108]⟩) 0 100 true)], [(⟨⟨#[109, 111, 118, 101]⟩, (rnumberM (⟨#[116, 111]⟩) 0 100 false), [(⟨2, ⟨#[108, 101, 118, 101, 108]⟩, 0⟩ : Effect)]⟩ : Command), (⟨⟨#[115, 116, 101, 112]⟩, ⟨⟨#[]⟩, 0, 0, 0, [], false, false⟩, [(⟨3, ⟨#[108, 101, 118, 101, 108]⟩, 10⟩ : Effect)]⟩ : Command)], []⟩ : Cluster), (⟨⟨#[108, 111, 99, 107]⟩, [(rflagM (⟨#[108, 111, 99, 107, 101, 100]⟩) true true)], [(⟨(rsetsM (⟨#[108, 111, 99, 107]⟩) (⟨#[108, 111, 99, 107, 101, 100]⟩) 1).name, ((rsetsM (⟨#[108, 111, 99, 107]⟩) (⟨#[108, 111, 99, 107, 101, 100]⟩) 1).param), (rsetsM (⟨#[108, 111, 99, 107]⟩) (⟨#[108, 111, 99, 107, 101, 100]⟩) 1).effects⟩ : Command), (⟨(rsetsM (⟨#[117, 110, 108, 111, 99, 107]⟩) (⟨#[108, 111, 99, 107, 101, 100]⟩) 0).name, ((rsetsM (⟨#[117, 110, 108, 111, 99, 107]⟩) (⟨#[108, 111, 99, 107, 101, 100]⟩) 0).param), (rsetsM (⟨#[117, 110, 108, 111, 99, 107]⟩) (⟨#[108, 111, 99, 107, 101, 100]⟩) 0).effects⟩ : Command)], [⟨#[106, 97, 109]⟩]⟩ : Cluster), (⟨⟨#[116, 104, 101, 114, 109, 111, 115, 116, 97, 116]⟩, [(rnumberM (⟨#[116, 97, 114, 103, 101, 116]⟩) 50 300 true), (rnumberM (⟨#[116, 101, 109, 112]⟩) (-500) 1000 false)], [], []⟩ : Cluster), (⟨⟨#[115, 109, 111, 107, 101]⟩, [(rflagM (⟨#[97, 108, 97, 114, 109]⟩) false true)], [], [⟨#[116, 101, 115, 116]⟩]⟩ : Cluster), (⟨⟨#[108, 101, 97, 107]⟩, [(rflagM (⟨#[119, 101, 116]⟩) false true)], [], []⟩ : Cluster), (⟨⟨#[118, 97, 108, 118, 101]⟩, [(rflagM (⟨#[111, 112, 101, 110]⟩) true true)], [(⟨(rsetsM (⟨#[111, 112, 101, 110]⟩) (⟨#[111, 112, 101, 110]⟩) 1).name, ((rsetsM (⟨#[111, 112, 101, 110]⟩) (⟨#[111, 112, 101, 110]⟩) 1).param), (rsetsM (⟨#[111, 112, 101, 110]⟩) (⟨#[111, 112, 101, 110]⟩) 1).effects⟩ : Command), (⟨(rsetsM (⟨#[99, 108, 111, 115, 101]⟩) (⟨#[111, 112, 101, 110]⟩) 0).name, ((rsetsM (⟨#[99, 108, 111, 115, 101]⟩) (⟨#[111, 112, 101, 110]⟩) 0).param), (rsetsM (⟨#[99, 108, 111, 115, 101]⟩) (⟨#[111, 112, 101, 110]⟩) 0).effects⟩ : Command)], []⟩ : Cluster), (⟨⟨#[109, 101, 116, 101, 114]⟩, [(rnumberM (⟨#[112, 111, 119, 101, 114]⟩) 0 100000 false)], [], []⟩ : Cluster)]).map Cluster.cells)) : AV) = .rv (.sl 4 ((rstdM ).map Cluster.cells)); unfold rstdM; try kernel_rfl)
def smallM_B1 (m : MsgV) (k1_ : Nat) : Option Bool :=
 (match (m.items)[k1_]? with | some e1_ => (bif ((decide ((e1_.key.cluster.size : Int) > 600) || decide ((e1_.key.attr.size : Int) > 600)) || decide ((e1_.value.s.size : Int) > 600)) then some false else none) | none => none)
def smallM_L1 (m : MsgV) : Option Bool := scanN (smallM_B1 m) 0 m.items.length
def smallM (m : MsgV) : Bool :=
 (bif ((decide ((m.items.length : Int) > 12) || (decide ((m.data.size : Int) > 600) || decide ((m.cluster.size : Int) > 600))) || decide ((m.name.size : Int) > 600)) then false else (smallM_L1 m).getD true)
abbrev smallM_c1 (m : MsgV) : Nat × AV := (28, .rv (.sl 7 (m.items.map ItemV.cells)))
abbrev smallM_c2 (m : MsgV) : Nat × AV := (29, vi (m.items.length : Int))
abbrev smallM_c3 (m : MsgV) : Nat × AObj := (0, .box 24 (avs (MsgV.cells m)))
abbrev smallM_c4 (k1_ : Nat) : Nat × AV := (30, vi (k1_ : Int))
theorem smallM_ok (m : MsgV) :
 ACalls Try.prog G_ 9 [.agg (avs (MsgV.cells m))] [] 0 (fun r τ => r = vb (smallM m) ∧ τ = []) := by
 refine ACalls.body Try.func9 rfl 54 [(0, .agg (avs (MsgV.cells m)))] ?_
 refine AWp.hz [.run 2] 54 [(1, .ptr 0 0)] [(smallM_c3 m)] 1 ?_
 refine AWp.seq ?_
 refine AWp.join (Z 54 [(1, .ptr 0 0), (26, vb ((decide ((m.items.length : Int) > 12) || (decide ((m.data.size : Int) > 600) || decide ((m.cluster.size : Int) > 600))) || decide ((m.name.size : Int) > 600)))] [(0, .box 24 (avs (MsgV.cells m)))] 1) ?_ ?_
 ·
  refine AWp.region ?_
  refine AOps.hzl [.run 2, .len ItemV.cells m.items 7, .run 2] 54 [(1, .ptr 0 0), (9, vb (decide ((m.items.length : Int) > 12)))] [(smallM_c3 m)] 1 (fun hl => ?_)
  obtain ⟨hn1, -⟩ := hl
  refine AOps.hg [] (decide ((m.items.length : Int) > 12)) 54 (fun b_ => [(1, .ptr 0 0), (9, vb b_)]) [(smallM_c3 m)] 1 (fun hg2 => ?_) (fun hg2 => ?_)
  ·
   have hg2' := of_decide_eq_true hg2
   refine AOps.he [.run 17] 54 [(1, .ptr 0 0), (26, vb true)] [(smallM_c3 m)] 1 ?_
   exact leZ (by rw [hg2]; try kernel_rfl)
  ·
   have hg2' := of_decide_eq_false hg2
   refine AOps.hg [.run 6] (decide ((m.data.size : Int) > 600)) 54 (fun b_ => [(1, .ptr 0 0), (15, vb b_)]) [(smallM_c3 m)] 1 (fun hg3 => ?_) (fun hg3 => ?_)
   ·
    have hg3' := of_decide_eq_true hg3
    refine AOps.he [.run 11] 54 [(1, .ptr 0 0), (26, vb true)] [(smallM_c3 m)] 1 ?_
    exact leZ (by rw [hg2, hg3]; try kernel_rfl)
   ·
    have hg3' := of_decide_eq_false hg3
    refine AOps.hg [.run 6] (decide ((m.cluster.size : Int) > 600)) 54 (fun b_ => [(1, .ptr 0 0), (21, vb b_)]) [(smallM_c3 m)] 1 (fun hg4 => ?_) (fun hg4 => ?_)
    ·
     have hg4' := of_decide_eq_true hg4
     refine AOps.he [.run 5] 54 [(1, .ptr 0 0), (26, vb true)] [(smallM_c3 m)] 1 ?_
     exact leZ (by rw [hg2, hg3, hg4]; try kernel_rfl)
    ·
     have hg4' := of_decide_eq_false hg4
     refine AOps.he [.run 5] 54 [(1, .ptr 0 0), (26, vb (decide ((m.name.size : Int) > 600)))] [(smallM_c3 m)] 1 ?_
     exact leZ (by rw [hg2, hg3, hg4]; try kernel_rfl)
 ·
  refine AWp.cnd (((decide ((m.items.length : Int) > 12) || (decide ((m.data.size : Int) > 600) || decide ((m.cluster.size : Int) > 600))) || decide ((m.name.size : Int) > 600))) (fun h5 => ?_) (fun h5 => ?_)
  ·
   refine AWp.hz [.run 1] 54 [(2, vb false)] [] 1 ?_
   refine AWp.ret ?_
   exact leafR (r := vb false) (by unfold smallM; (try rw [h5]); try kernel_rfl)
  ·
   have h5l := or_fl h5
   have h5ll := or_fl h5l
   have h5ll' := of_decide_eq_false h5ll
   have h5lr := or_fr h5l
   have h5lrl := or_fl h5lr
   have h5lrl' := of_decide_eq_false h5lrl
   have h5lrr := or_fr h5lr
   have h5lrr' := of_decide_eq_false h5lrr
   have h5r := or_fr h5
   have h5r' := of_decide_eq_false h5r
   refine AWp.skip ?_
   refine AWp.seq ?_
   refine AWp.hzl [.run 2, .len ItemV.cells m.items 7, .run 1] 54 [(smallM_c1 m), (smallM_c2 m), (30, vi 0)] [] 1 (fun hl => ?_)
   obtain ⟨hn6, -⟩ := hl
   refine AWp.block ?_
   refine AWp.loop (ι := Nat) (fun k1_ => Z 54 [(smallM_c1 m), (smallM_c2 m), (smallM_c4 k1_)] [] 1) (fun k1_ => k1_ ≤ m.items.length ∧ smallM_L1 m = scanN (smallM_B1 m) k1_ (m.items.length - k1_)) (fun k1_ => m.items.length - k1_) 0 leZ ⟨Nat.zero_le _, rfl⟩ ?_
   intro k1_ ⟨hk1_, hs1_⟩
   refine AWp.hz [.run 1] 54 [(smallM_c1 m), (smallM_c2 m), (smallM_c4 k1_), (31, vb (decide ((k1_ : Int) < (m.items.length : Int))))] [] 1 ?_
   refine AWp.seq ?_
   refine AWp.cnd (decide ((k1_ : Int) < (m.items.length : Int))) (fun h7 => ?_) (fun h7 => ?_)
   ·
    have h7' := of_decide_eq_true h7
    refine AWp.skip ?_
    refine AWp.seq ?_
    refine AWp.block ?_
    obtain ⟨e1_, he1_⟩ := getEx (l := m.items) (j := k1_) (by omega)
    refine AWp.hz [.idx ItemV.cells m.items 7 k1_ e1_ he1_, .run 3] 54 [(4, .ptr 1 0), (smallM_c1 m), (smallM_c2 m), (smallM_c4 k1_)] [(1, .box 55 (avs (ItemV.cells e1_)))] 2 ?_
    refine AWp.join (Z 54 [(28, .rv (.sl 7 (m.items.map ItemV.cells))), (29, vi (m.items.length : Int)), (30, vi (k1_ : Int)), (52, vb ((decide ((e1_.key.cluster.size : Int) > 600) || decide ((e1_.key.attr.size : Int) > 600)) || decide ((e1_.value.s.size : Int) > 600)))] [] 2) ?_ ?_
    ·
     refine AWp.region ?_
     refine AOps.hg [.run 6] (decide ((e1_.key.cluster.size : Int) > 600)) 54 (fun b_ => [(4, .ptr 1 0), (smallM_c1 m), (smallM_c2 m), (smallM_c4 k1_), (39, vb b_)]) [(1, .box 55 (avs (ItemV.cells e1_)))] 2 (fun hg8 => ?_) (fun hg8 => ?_)
     ·
      have hg8' := of_decide_eq_true hg8
      refine AOps.he [.run 13] 54 [(smallM_c1 m), (smallM_c2 m), (smallM_c4 k1_), (52, vb true)] [] 2 ?_
      exact leZ (by rw [hg8]; try kernel_rfl)
     ·
      have hg8' := of_decide_eq_false hg8
      refine AOps.hg [.run 7] (decide ((e1_.key.attr.size : Int) > 600)) 54 (fun b_ => [(4, .ptr 1 0), (smallM_c1 m), (smallM_c2 m), (smallM_c4 k1_), (46, vb b_)]) [(1, .box 55 (avs (ItemV.cells e1_)))] 2 (fun hg9 => ?_) (fun hg9 => ?_)
      ·
       have hg9' := of_decide_eq_true hg9
       refine AOps.he [.run 6] 54 [(smallM_c1 m), (smallM_c2 m), (smallM_c4 k1_), (52, vb true)] [] 2 ?_
       exact leZ (by rw [hg8, hg9]; try kernel_rfl)
      ·
       have hg9' := of_decide_eq_false hg9
       refine AOps.he [.run 6] 54 [(smallM_c1 m), (smallM_c2 m), (smallM_c4 k1_), (52, vb (decide ((e1_.value.s.size : Int) > 600)))] [] 2 ?_
       exact leZ (by rw [hg8, hg9]; try kernel_rfl)
    ·
     refine AWp.cnd (((decide ((e1_.key.cluster.size : Int) > 600) || decide ((e1_.key.attr.size : Int) > 600)) || decide ((e1_.value.s.size : Int) > 600))) (fun h10 => ?_) (fun h10 => ?_)
     ·
      refine AWp.hz [.run 1] 54 [(2, vb false)] [] 2 ?_
      refine AWp.ret ?_
      have hL1_ : smallM_L1 m = some false := scanN_some hs1_ (by omega) (by unfold smallM_B1; (try simp only [he1_]); (try rw [h7]); (try rw [h10]); try kernel_rfl)
      exact leafR (r := vb false) (by unfold smallM; (try rw [h5]); (try rw [hL1_]); try kernel_rfl)
     ·
      have h10l := or_fl h10
      have h10ll := or_fl h10l
      have h10ll' := of_decide_eq_false h10ll
      have h10lr := or_fr h10l
      have h10lr' := of_decide_eq_false h10lr
      have h10r := or_fr h10
      have h10r' := of_decide_eq_false h10r
      refine AWp.skip ?_
      refine AWp.he [.cast (vi (IntKind.i64.wrap ((k1_ : Int) + 1))) (vi ((k1_ + 1 : Nat) : Int)) (congrArg vi (wrap_nat (by omega))), .run 1] 54 [(smallM_c1 m), (smallM_c2 m), (30, vi ((k1_ + 1 : Nat) : Int))] [] 2 ?_
      exact ⟨k1_ + 1, ⟨by omega, scanN_none hs1_ (by omega) (by unfold smallM_B1; (try simp only [he1_]); (try rw [h7]); (try rw [h10]); try kernel_rfl)⟩, by omega, leG⟩
   ·
    have h7' := of_decide_eq_false h7
    refine AWp.exit ?_
    have hL1_ : smallM_L1 m = none := scanN_end hs1_ (by omega)
    refine AWp.hz [.run 1] 54 [(2, vb true)] [] 1 ?_
    refine AWp.ret ?_
    exact leafR (r := vb true) (by unfold smallM; (try rw [h5]); (try rw [hL1_]); try kernel_rfl)
end Go.Proofs.Ytnnlaccdendkpaa
