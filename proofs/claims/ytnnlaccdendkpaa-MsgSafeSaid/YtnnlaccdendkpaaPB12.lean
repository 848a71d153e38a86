/- The statements: safety. -/
import Derived.Test.YtnnlaccdendkpaaPRm
namespace Go.Proofs.Ytnnlaccdendkpaa
open Go Go.Av Go.Hh Go.Proofs
set_option maxRecDepth 100000
set_option maxHeartbeats 4000000
theorem mod_len {h : Home} (hm : (!(modestM h)) = false) : h.clusters.length ≤ 10 := by
 have hm : modestM h = true := by simpa using hm
 unfold modestM at hm
 rw [cond_eq_ite] at hm
 split at hm
 ·cases hm
 ·rename_i hq
  simp only [Bool.or_eq_true, decide_eq_true_eq, not_or, Int.not_lt, gt_iff_lt] at hq
  omega
theorem mod_attrs {h : Home} {k : Nat} {e : Cluster} (hm : (!(modestM h)) = false) (he : h.clusters[k]? = some e) : e.attrs.length ≤ 20 := by
 have hm : modestM h = true := by simpa using hm
 unfold modestM at hm
 rw [cond_eq_ite] at hm
 split at hm
 ·cases hm
 ·cases hs : modestM_L1 h with
  | some b =>
   rw [hs] at hm
   obtain ⟨j, _, _, hj, _⟩ := scanN_get hs
   unfold modestM_B1 at hj
   split at hj
   ·rw [cond_eq_ite] at hj
    split at hj
    ·cases hj; cases hm
    ·cases hj
   ·cases hj
  | none =>
   have hj := scanN_all.1 hs k (Nat.zero_le _) (by have := (List.getElem?_eq_some_iff.1 he).1; omega)
   unfold modestM_B1 at hj
   rw [he] at hj
   dsimp only at hj
   rw [cond_eq_ite] at hj
   split at hj
   ·cases hj
   ·rename_i hq
    simp only [Bool.or_eq_true, decide_eq_true_eq, not_or, Int.not_lt, gt_iff_lt] at hq
    omega
def lSafeM_B2 (h : Home) (m : MsgV) (s : ByteArray) (e1_ : Cluster) (k2_ : Nat) (x_ : (List Attr)) : (List Attr) :=
 match x_ with
 | (a2_0) => (match (e1_.attrs)[k2_]? with | some e2_ => ((a2_0 ++ [(⟨e2_.name, e2_.kind, e2_.min, e2_.max, e2_.enum, e2_.writable, false⟩ : Attr)])) | none => x_)
def lSafeM_L2 (h : Home) (m : MsgV) (s : ByteArray) (e1_ : Cluster) (x_ : (List Attr)) : (List Attr) := iterN (lSafeM_B2 h m s e1_) 0 e1_.attrs.length x_
def lSafeM_B1 (h : Home) (m : MsgV) (s : ByteArray) (k1_ : Nat) (x_ : (List Cluster)) : (List Cluster) :=
 match x_ with
 | (a1_0) => (match (h.clusters)[k1_]? with | some e1_ => ((a1_0 ++ [(⟨e1_.name, (lSafeM_L2 h m s e1_ ([])), e1_.commands, e1_.events⟩ : Cluster)])) | none => x_)
def lSafeM_L1 (h : Home) (m : MsgV) (s : ByteArray) (x_ : (List Cluster)) : (List Cluster) := iterN (lSafeM_B1 h m s) 0 h.clusters.length x_
def lSafeM (h : Home) (m : MsgV) (s : ByteArray) : Bool :=
 (bif ((!(smallM m) || !(modestM h)) || decide ((s.size : Int) > 600)) then awakeM  else (bif urgentM (⟨(lSafeM_L1 h m s ([])), h.devices⟩ : Home) m then false else (bif (!(urgentM h m) || ((m.items.length : Int) == 0)) then awakeM  else (match (m.items)[((m.items.length : Int) - 1).toNat]? with | some e3_ => (bif (mCheckM (⟨m.kind, m.dev, m.epoch, m.version, (m.items ++ [(⟨⟨e3_.key.dev, e3_.key.cluster, s⟩, e3_.value, e3_.version⟩ : ItemV)]), m.cluster, m.name, m.data⟩ : MsgV) != 0) then awakeM  else (urgentM h (⟨m.kind, m.dev, m.epoch, m.version, (m.items ++ [(⟨⟨e3_.key.dev, e3_.key.cluster, s⟩, e3_.value, e3_.version⟩ : ItemV)]), m.cluster, m.name, m.data⟩ : MsgV) && awakeM )) | none => false))))
abbrev lSafeM_c1 (h : Home) : Nat × AObj := (0, .box 40 (avs (Home.cells h)))
abbrev lSafeM_c2 (m : MsgV) : Nat × AObj := (1, .box 24 (avs (MsgV.cells m)))
abbrev lSafeM_c3 (s : ByteArray) (e3_ : ItemV) : Nat × AObj := (4, .box 55 [vi e3_.key.dev, vs e3_.key.cluster, vs s, vi e3_.value.kind, vi e3_.value.n, vs e3_.value.s, vi e3_.version])
abbrev lSafeM_c4 (h : Home) : Nat × AObj := (2, .box 40 [.sl 3, .rv (.sl 7 (h.devices.map Dev.cells))])
abbrev lSafeM_c5 (h : Home) : Nat × AV := (33, .rv (.sl 4 (h.clusters.map Cluster.cells)))
abbrev lSafeM_c6 (s : ByteArray) (e3_ : ItemV) : Nat × AV := (91, .agg [vi e3_.key.dev, vs e3_.key.cluster, vs s, vi e3_.value.kind, vi e3_.value.n, vs e3_.value.s, vi e3_.version])
abbrev lSafeM_c7 (m : MsgV) : Nat × AObj := (5, .box 24 (avs (MsgV.cells m)))
abbrev lSafeM_c8 (h : Home) : Nat × AV := (34, vi (h.clusters.length : Int))
abbrev lSafeM_c9 (s : ByteArray) (e3_ : ItemV) : Nat × AV := (92, .rv (.sl 7 (([(⟨⟨e3_.key.dev, e3_.key.cluster, s⟩, e3_.value, e3_.version⟩ : ItemV)]).map ItemV.cells)))
abbrev lSafeM_c10 (a1_0 : List Cluster) : Nat × AObj := (3, .row false 46 4 (a1_0.map Cluster.cells))
abbrev lSafeM_c11 (m : MsgV) (s : ByteArray) (e3_ : ItemV) : Nat × AObj := (6, .row false 55 7 ((m.items ++ [(⟨⟨e3_.key.dev, e3_.key.cluster, s⟩, e3_.value, e3_.version⟩ : ItemV)]).map ItemV.cells))
abbrev lSafeM_c12 (k1_ : Nat) : Nat × AV := (35, vi (k1_ : Int))
abbrev lSafeM_c13 (e1_ : Cluster) : Nat × AObj := (4, .box 46 (avs (Cluster.cells e1_)))
abbrev lSafeM_c14 (e1_ : Cluster) : Nat × AV := (40, .rv (.sl 7 (e1_.attrs.map Attr.cells)))
abbrev lSafeM_c15 (e1_ : Cluster) : Nat × AV := (41, vi (e1_.attrs.length : Int))
abbrev lSafeM_c16 (m : MsgV) : Nat × AV := (89, .rv (.sl 7 (m.items.map ItemV.cells)))
theorem lSafeM_ok (h : Home) (m : MsgV) (s : ByteArray) :
 ACalls Try.prog G_ 8 [.agg (avs (Home.cells h)), .agg (avs (MsgV.cells m)), vs s] [] 0 (fun r τ => r = vb (lSafeM h m s) ∧ τ = []) := by
 refine ACalls.body Try.func8 rfl 105 [(0, .agg (avs (Home.cells h))), (1, .agg (avs (MsgV.cells m))), (2, vs s)] ?_
 refine AWp.hz [.run 3] 105 [(2, vs s), (3, .ptr 0 0), (4, .ptr 1 0)] [(lSafeM_c2 m), (lSafeM_c1 h)] 2 ?_
 refine AWp.seq ?_
 refine AWp.join (Z 105 [(2, vs s), (3, .ptr 0 0), (4, .ptr 1 0), (27, vb ((!(smallM m) || !(modestM h)) || decide ((s.size : Int) > 600)))] [(1, .box 24 (avs (MsgV.cells m))), (0, .box 40 (avs (Home.cells h)))] 2) ?_ ?_
 ·
  refine AWp.region ?_
  refine AOps.hg [.run 1, .call 9 [.agg (avs (MsgV.cells m))] (vb (smallM m)) [] 0 (smallM_ok m), .run 2] (!(smallM m)) 105 (fun b_ => [(2, vs s), (3, .ptr 0 0), (4, .ptr 1 0), (18, vb b_)]) [(lSafeM_c2 m), (lSafeM_c1 h)] 2 (fun hg1 => ?_) (fun hg1 => ?_)
  ·
   refine AOps.he [.run 9] 105 [(2, vs s), (3, .ptr 0 0), (4, .ptr 1 0), (27, vb true)] [(lSafeM_c2 m), (lSafeM_c1 h)] 2 ?_
   exact leZ (by rw [hg1]; try kernel_rfl)
  ·
   refine AOps.hg [.run 1, .call 18 [.agg (avs (Home.cells h))] (vb (modestM h)) [] 0 (modestM_ok h), .run 3] (!(modestM h)) 105 (fun b_ => [(2, vs s), (3, .ptr 0 0), (4, .ptr 1 0), (23, vb b_)]) [(lSafeM_c2 m), (lSafeM_c1 h)] 2 (fun hg2 => ?_) (fun hg2 => ?_)
   ·
    refine AOps.he [.run 4] 105 [(2, vs s), (3, .ptr 0 0), (4, .ptr 1 0), (27, vb true)] [(lSafeM_c2 m), (lSafeM_c1 h)] 2 ?_
    exact leZ (by rw [hg1, hg2]; try kernel_rfl)
   ·
    refine AOps.he [.run 4] 105 [(2, vs s), (3, .ptr 0 0), (4, .ptr 1 0), (27, vb (decide ((s.size : Int) > 600)))] [(lSafeM_c2 m), (lSafeM_c1 h)] 2 ?_
    exact leZ (by rw [hg1, hg2]; try kernel_rfl)
 ·
  refine AWp.cnd (((!(smallM m) || !(modestM h)) || decide ((s.size : Int) > 600))) (fun h3 => ?_) (fun h3 => ?_)
  ·
   refine AWp.hz [.call 10 [] (vb (awakeM )) [] 0 (awakeM_ok ), .run 1] 105 [(6, vb (awakeM ))] [] 2 ?_
   refine AWp.ret ?_
   exact leafR (r := vb (awakeM )) (by unfold lSafeM; (try rw [h3]); try kernel_rfl)
  ·
   have h3l := or_fl h3
   have h3r := or_fr h3
   have h3r' := of_decide_eq_false h3r
   refine AWp.skip ?_
   refine AWp.hz [.run 1] 105 [(2, vs s), (3, .ptr 0 0), (4, .ptr 1 0), (7, .ptr 2 0)] [(2, .box 40 [.rv (.v (.slice none 0 0)), .rv (.v (.slice none 0 0))]), (lSafeM_c2 m), (lSafeM_c1 h)] 3 ?_
   refine AWp.hz [.run 4] 105 [(2, vs s), (3, .ptr 0 0), (4, .ptr 1 0), (7, .ptr 2 0)] [(2, .box 40 [.rv (.v (.slice none 0 0)), .rv (.sl 7 (h.devices.map Dev.cells))]), (lSafeM_c2 m), (lSafeM_c1 h)] 3 ?_
   refine AWp.seq ?_
   refine AWp.hzl [.run 2, .len Cluster.cells h.clusters 4, .run 1] 105 [(2, vs s), (3, .ptr 0 0), (4, .ptr 1 0), (7, .ptr 2 0), (lSafeM_c5 h), (lSafeM_c8 h), (35, vi 0)] [(2, .box 40 [.rv (.v (.slice none 0 0)), .rv (.sl 7 (h.devices.map Dev.cells))]), (lSafeM_c2 m), (lSafeM_c1 h)] 3 (fun hl => ?_)
   obtain ⟨hn4, -⟩ := hl
   refine AWp.nrowB 2 0 46 4 40 [.rv (.v (.slice none 0 0)), .rv (.sl 7 (h.devices.map Dev.cells))] ?_
   refine AWp.joinE1 (A := (List Cluster)) (fun x_ => Z 105 [(2, vs s), (3, .ptr 0 0), (4, .ptr 1 0), (7, .ptr 2 0)] [(3, .row false 46 4 (x_.map Cluster.cells)), (2, .box 40 [.sl 3, .rv (.sl 7 (h.devices.map Dev.cells))]), (1, .box 24 (avs (MsgV.cells m))), (0, .box 40 (avs (Home.cells h)))] 4) (fun x_ => x_ = (lSafeM_L1 h m s ([])) ∧ x_.length = 0 + h.clusters.length) ?_ ?_
   ·
    refine AWp.block ?_
    refine AWp.loop (ι := Nat × ((List Cluster))) (fun x_ => Z 105 [(2, vs s), (3, .ptr 0 0), (4, .ptr 1 0), (7, .ptr 2 0), (lSafeM_c5 h), (lSafeM_c8 h), (35, vi (x_.1 : Int))] [(3, .row false 46 4 (x_.2.map Cluster.cells)), (lSafeM_c4 h), (lSafeM_c2 m), (lSafeM_c1 h)] 4) (fun x_ => x_.1 ≤ h.clusters.length ∧ (lSafeM_L1 h m s ([])) = iterN (lSafeM_B1 h m s) x_.1 (h.clusters.length - x_.1) x_.2 ∧ x_.2.length = 0 + x_.1 ∧ h.clusters.length ≤ 10 ∧ x_.2.length = x_.1) (fun x_ => h.clusters.length - x_.1) (0, ([])) leZ ⟨Nat.zero_le _, rfl, rfl, ⟨mod_len (or_fr (or_fl (by assumption))), rfl⟩⟩ ?_
    rintro ⟨k1_, a1_0⟩ ⟨hk1_, hs1_, hl1_0, hv1_⟩
    try dsimp only at hk1_
    try dsimp only at hs1_
    try dsimp only at hl1_0
    try dsimp only at hv1_
    refine AWp.cv 105 [(2, vs s), (3, .ptr 0 0), (4, .ptr 1 0), (7, .ptr 2 0), (lSafeM_c5 h), (lSafeM_c8 h), (lSafeM_c12 k1_)] [(lSafeM_c10 a1_0), (lSafeM_c4 h), (lSafeM_c2 m), (lSafeM_c1 h)] 4 ?_
    refine AWp.hz [.run 1] 105 [(2, vs s), (3, .ptr 0 0), (4, .ptr 1 0), (7, .ptr 2 0), (lSafeM_c5 h), (lSafeM_c8 h), (lSafeM_c12 k1_), (36, vb (decide ((k1_ : Int) < (h.clusters.length : Int))))] [(lSafeM_c10 a1_0), (lSafeM_c4 h), (lSafeM_c2 m), (lSafeM_c1 h)] 4 ?_
    refine AWp.seq ?_
    refine AWp.cnd (decide ((k1_ : Int) < (h.clusters.length : Int))) (fun h5 => ?_) (fun h5 => ?_)
    ·
     have h5' := of_decide_eq_true h5
     refine AWp.skip ?_
     refine AWp.seq ?_
     refine AWp.block ?_
     obtain ⟨e1_, he1_⟩ := getEx (l := h.clusters) (j := k1_) (by omega)
     refine AWp.hz [.idx Cluster.cells h.clusters 4 k1_ e1_ he1_, .run 3] 105 [(2, vs s), (3, .ptr 0 0), (4, .ptr 1 0), (7, .ptr 2 0), (9, .ptr 4 0), (lSafeM_c5 h), (lSafeM_c8 h), (lSafeM_c12 k1_)] [(lSafeM_c13 e1_), (lSafeM_c10 a1_0), (lSafeM_c4 h), (lSafeM_c2 m), (lSafeM_c1 h)] 5 ?_
     refine AWp.hz [.run 1] 105 [(2, vs s), (3, .ptr 0 0), (4, .ptr 1 0), (7, .ptr 2 0), (9, .ptr 4 0), (10, .rv (.v (.slice none 0 0))), (lSafeM_c5 h), (lSafeM_c8 h), (lSafeM_c12 k1_)] [(lSafeM_c13 e1_), (lSafeM_c10 a1_0), (lSafeM_c4 h), (lSafeM_c2 m), (lSafeM_c1 h)] 5 ?_
     refine AWp.seq ?_
     refine AWp.hzl [.run 2, .len Attr.cells e1_.attrs 7, .run 1] 105 [(2, vs s), (3, .ptr 0 0), (4, .ptr 1 0), (7, .ptr 2 0), (9, .ptr 4 0), (10, .rv (.v (.slice none 0 0))), (lSafeM_c5 h), (lSafeM_c8 h), (lSafeM_c12 k1_), (lSafeM_c14 e1_), (lSafeM_c15 e1_), (42, vi 0)] [(lSafeM_c13 e1_), (lSafeM_c10 a1_0), (lSafeM_c4 h), (lSafeM_c2 m), (lSafeM_c1 h)] 5 (fun hl => ?_)
     obtain ⟨hn6, -⟩ := hl
     refine AWp.nrow 10 48 7 ?_
     refine AWp.joinE1 (A := (List Attr)) (fun x_ => Z 105 [(2, vs s), (3, .ptr 0 0), (4, .ptr 1 0), (7, .ptr 2 0), (9, .ptr 4 0), (10, .sl 5), (33, .rv (.sl 4 (h.clusters.map Cluster.cells))), (34, vi (h.clusters.length : Int)), (35, vi (k1_ : Int))] [(5, .row false 48 7 (x_.map Attr.cells)), (4, .box 46 (avs (Cluster.cells e1_))), (3, .row false 46 4 (a1_0.map Cluster.cells)), (2, .box 40 [.sl 3, .rv (.sl 7 (h.devices.map Dev.cells))]), (1, .box 24 (avs (MsgV.cells m))), (0, .box 40 (avs (Home.cells h)))] 6) (fun x_ => x_ = (lSafeM_L2 h m s e1_ ([])) ∧ x_.length = 0 + e1_.attrs.length) ?_ ?_
     ·
      refine AWp.block ?_
      refine AWp.loop (ι := Nat × ((List Attr))) (fun x_ => Z 105 [(2, vs s), (3, .ptr 0 0), (4, .ptr 1 0), (7, .ptr 2 0), (9, .ptr 4 0), (10, .sl 5), (lSafeM_c5 h), (lSafeM_c8 h), (lSafeM_c12 k1_), (lSafeM_c14 e1_), (lSafeM_c15 e1_), (42, vi (x_.1 : Int))] [(5, .row false 48 7 (x_.2.map Attr.cells)), (lSafeM_c13 e1_), (lSafeM_c10 a1_0), (lSafeM_c4 h), (lSafeM_c2 m), (lSafeM_c1 h)] 6) (fun x_ => x_.1 ≤ e1_.attrs.length ∧ (lSafeM_L2 h m s e1_ ([])) = iterN (lSafeM_B2 h m s e1_) x_.1 (e1_.attrs.length - x_.1) x_.2 ∧ x_.2.length = 0 + x_.1 ∧ e1_.attrs.length ≤ 20) (fun x_ => e1_.attrs.length - x_.1) (0, ([])) leZ ⟨Nat.zero_le _, rfl, rfl, mod_attrs (or_fr (or_fl (by assumption))) he1_⟩ ?_
      rintro ⟨k2_, a2_0⟩ ⟨hk2_, hs2_, hl2_0, hv2_⟩
      try dsimp only at hk2_
      try dsimp only at hs2_
      try dsimp only at hl2_0
      try dsimp only at hv2_
      refine AWp.cv 105 [(2, vs s), (3, .ptr 0 0), (4, .ptr 1 0), (7, .ptr 2 0), (9, .ptr 4 0), (10, .sl 5), (lSafeM_c5 h), (lSafeM_c8 h), (lSafeM_c12 k1_), (lSafeM_c14 e1_), (lSafeM_c15 e1_), (42, vi (k2_ : Int))] [(5, .row false 48 7 (a2_0.map Attr.cells)), (lSafeM_c13 e1_), (lSafeM_c10 a1_0), (lSafeM_c4 h), (lSafeM_c2 m), (lSafeM_c1 h)] 6 ?_
      refine AWp.hz [.run 1] 105 [(2, vs s), (3, .ptr 0 0), (4, .ptr 1 0), (7, .ptr 2 0), (9, .ptr 4 0), (10, .sl 5), (lSafeM_c5 h), (lSafeM_c8 h), (lSafeM_c12 k1_), (lSafeM_c14 e1_), (lSafeM_c15 e1_), (42, vi (k2_ : Int)), (43, vb (decide ((k2_ : Int) < (e1_.attrs.length : Int))))] [(5, .row false 48 7 (a2_0.map Attr.cells)), (lSafeM_c13 e1_), (lSafeM_c10 a1_0), (lSafeM_c4 h), (lSafeM_c2 m), (lSafeM_c1 h)] 6 ?_
      refine AWp.seq ?_
      refine AWp.cnd (decide ((k2_ : Int) < (e1_.attrs.length : Int))) (fun h7 => ?_) (fun h7 => ?_)
      ·
       have h7' := of_decide_eq_true h7
       refine AWp.skip ?_
       refine AWp.seq ?_
       refine AWp.block ?_
       obtain ⟨e2_, he2_⟩ := getEx (l := e1_.attrs) (j := k2_) (by omega)
       refine AWp.hz [.idx Attr.cells e1_.attrs 7 k2_ e2_ he2_, .run 3] 105 [(2, vs s), (3, .ptr 0 0), (4, .ptr 1 0), (7, .ptr 2 0), (9, .ptr 4 0), (10, .sl 5), (12, .ptr 6 0), (lSafeM_c5 h), (lSafeM_c8 h), (lSafeM_c12 k1_), (lSafeM_c14 e1_), (lSafeM_c15 e1_), (42, vi (k2_ : Int))] [(6, .box 48 (avs (Attr.cells e2_))), (5, .row false 48 7 (a2_0.map Attr.cells)), (lSafeM_c13 e1_), (lSafeM_c10 a1_0), (lSafeM_c4 h), (lSafeM_c2 m), (lSafeM_c1 h)] 7 ?_
       refine AWp.hz [.run 2] 105 [(2, vs s), (3, .ptr 0 0), (4, .ptr 1 0), (7, .ptr 2 0), (9, .ptr 4 0), (10, .sl 5), (12, .ptr 6 0), (lSafeM_c5 h), (lSafeM_c8 h), (lSafeM_c12 k1_), (lSafeM_c14 e1_), (lSafeM_c15 e1_), (42, vi (k2_ : Int))] [(6, .box 48 [vs e2_.name, vi e2_.kind, vi e2_.min, vi e2_.max, .rv (.sl 1 (e2_.enum.map strC)), vb e2_.writable, vb false]), (5, .row false 48 7 (a2_0.map Attr.cells)), (lSafeM_c13 e1_), (lSafeM_c10 a1_0), (lSafeM_c4 h), (lSafeM_c2 m), (lSafeM_c1 h)] 7 ?_
       refine AWp.he [.run 2, .lit 48 7 (List.map Attr.cells [(⟨e2_.name, e2_.kind, e2_.min, e2_.max, e2_.enum, e2_.writable, false⟩ : Attr)]), .app Attr.cells a2_0 ([(⟨e2_.name, e2_.kind, e2_.min, e2_.max, e2_.enum, e2_.writable, false⟩ : Attr)]) 5 48 7 72 (apSz (by have := small_l (m := m) (or_fl (by assumption)); simp; omega)), .run 1] 105 [(2, vs s), (3, .ptr 0 0), (4, .ptr 1 0), (7, .ptr 2 0), (9, .ptr 4 0), (10, .sl 5), (lSafeM_c5 h), (lSafeM_c8 h), (lSafeM_c12 k1_), (lSafeM_c14 e1_), (lSafeM_c15 e1_), (42, vi (k2_ : Int))] [(5, .row false 48 7 ((a2_0 ++ [(⟨e2_.name, e2_.kind, e2_.min, e2_.max, e2_.enum, e2_.writable, false⟩ : Attr)]).map Attr.cells)), (lSafeM_c13 e1_), (lSafeM_c10 a1_0), (lSafeM_c4 h), (lSafeM_c2 m), (lSafeM_c1 h)] 7 ?_
       refine AWp.he [.cast (vi (IntKind.i64.wrap ((k2_ : Int) + 1))) (vi ((k2_ + 1 : Nat) : Int)) (congrArg vi (wrap_nat (by omega))), .run 1] 105 [(2, vs s), (3, .ptr 0 0), (4, .ptr 1 0), (7, .ptr 2 0), (9, .ptr 4 0), (10, .sl 5), (lSafeM_c5 h), (lSafeM_c8 h), (lSafeM_c12 k1_), (lSafeM_c14 e1_), (lSafeM_c15 e1_), (42, vi ((k2_ + 1 : Nat) : Int))] [(5, .row false 48 7 ((a2_0 ++ [(⟨e2_.name, e2_.kind, e2_.min, e2_.max, e2_.enum, e2_.writable, false⟩ : Attr)]).map Attr.cells)), (lSafeM_c13 e1_), (lSafeM_c10 a1_0), (lSafeM_c4 h), (lSafeM_c2 m), (lSafeM_c1 h)] 7 ?_
       exact ⟨(k2_ + 1, ((a2_0 ++ [(⟨e2_.name, e2_.kind, e2_.min, e2_.max, e2_.enum, e2_.writable, false⟩ : Attr)]))), ⟨by show k2_ + 1 ≤ _; omega, iterN_next hs2_ (by omega) (by unfold lSafeM_B2; (try dsimp only); (try simp only [he1_]); (try simp only [he2_]); (try rw [h7]); try kernel_rfl), by first | assumption | (simp only [List.length_set, List.length_append, List.length_cons, List.length_nil]; first | done | assumption | omega) | omega, by assumption⟩, by show _ - (k2_ + 1) < _ - k2_; omega, leG⟩
      ·
       have h7' := of_decide_eq_false h7
       refine AWp.exit ?_
       have hq2_ : (a2_0) = (lSafeM_L2 h m s e1_ ([])) := iterN_end hs2_ (by omega)
       exact ⟨(a2_0), ⟨hq2_, by first | assumption | (simp only [List.length_set, List.length_append, List.length_cons, List.length_nil]; first | done | assumption | omega) | omega⟩, leG⟩
     ·
      rintro _ ⟨rfl, hl2_0⟩
      try dsimp only at hl2_0
      refine AWp.hz [.run 3] 105 [(2, vs s), (3, .ptr 0 0), (4, .ptr 1 0), (7, .ptr 2 0), (9, .ptr 4 0), (lSafeM_c5 h), (lSafeM_c8 h), (lSafeM_c12 k1_)] [(5, .row false 48 7 ((lSafeM_L2 h m s e1_ ([])).map Attr.cells)), (4, .box 46 [vs e1_.name, .sl 5, .rv (.sl 9 (e1_.commands.map Command.cells)), .rv (.sl 1 (e1_.events.map strC))]), (lSafeM_c10 a1_0), (lSafeM_c4 h), (lSafeM_c2 m), (lSafeM_c1 h)] 6 ?_
      refine AWp.he [.run 3, .frz 5, .lit 46 4 (List.map Cluster.cells [(⟨e1_.name, (lSafeM_L2 h m s e1_ ([])), e1_.commands, e1_.events⟩ : Cluster)]), .app Cluster.cells a1_0 ([(⟨e1_.name, (lSafeM_L2 h m s e1_ ([])), e1_.commands, e1_.events⟩ : Cluster)]) 3 46 4 88 (apSz (by have := small_l (m := m) (or_fl (by assumption)); simp; omega)), .run 2] 105 [(2, vs s), (3, .ptr 0 0), (4, .ptr 1 0), (7, .ptr 2 0), (lSafeM_c5 h), (lSafeM_c8 h), (lSafeM_c12 k1_)] [(3, .row false 46 4 ((a1_0 ++ [(⟨e1_.name, (lSafeM_L2 h m s e1_ ([])), e1_.commands, e1_.events⟩ : Cluster)]).map Cluster.cells)), (lSafeM_c4 h), (lSafeM_c2 m), (lSafeM_c1 h)] 6 ?_
      refine AWp.he [.cast (vi (IntKind.i64.wrap ((k1_ : Int) + 1))) (vi ((k1_ + 1 : Nat) : Int)) (congrArg vi (wrap_nat (by omega))), .run 1] 105 [(2, vs s), (3, .ptr 0 0), (4, .ptr 1 0), (7, .ptr 2 0), (lSafeM_c5 h), (lSafeM_c8 h), (35, vi ((k1_ + 1 : Nat) : Int))] [(3, .row false 46 4 ((a1_0 ++ [(⟨e1_.name, (lSafeM_L2 h m s e1_ ([])), e1_.commands, e1_.events⟩ : Cluster)]).map Cluster.cells)), (lSafeM_c4 h), (lSafeM_c2 m), (lSafeM_c1 h)] 6 ?_
      exact ⟨(k1_ + 1, ((a1_0 ++ [(⟨e1_.name, (lSafeM_L2 h m s e1_ ([])), e1_.commands, e1_.events⟩ : Cluster)]))), ⟨by show k1_ + 1 ≤ _; omega, iterN_next hs1_ (by omega) (by unfold lSafeM_B1; (try dsimp only); (try simp only [he1_]); (try rw [h5]); try kernel_rfl), by first | assumption | (simp only [List.length_set, List.length_append, List.length_cons, List.length_nil]; first | done | assumption | omega) | omega, by first | exact ⟨by omega, by rw [List.length_append]; simp only [List.length_cons, List.length_nil]; omega⟩⟩, by show _ - (k1_ + 1) < _ - k1_; omega, leG⟩
    ·
     have h5' := of_decide_eq_false h5
     refine AWp.exit ?_
     have hq1_ : (a1_0) = (lSafeM_L1 h m s ([])) := iterN_end hs1_ (by omega)
     exact ⟨(a1_0), ⟨hq1_, by first | assumption | (simp only [List.length_set, List.length_append, List.length_cons, List.length_nil]; first | done | assumption | omega) | omega⟩, leG⟩
   ·
    rintro _ ⟨rfl, hl1_0⟩
    try dsimp only at hl1_0
    refine AWp.seq ?_
    refine AWp.hz [.run 2, .callB 19 [] [] [.agg [.rv (.sl 4 ((lSafeM_L1 h m s ([])).map Cluster.cells)), .rv (.sl 7 (h.devices.map Dev.cells))], .agg (avs (MsgV.cells m))] (vb (urgentM (⟨(lSafeM_L1 h m s ([])), h.devices⟩ : Home) m)) (urgentM_ok (⟨(lSafeM_L1 h m s ([])), h.devices⟩ : Home) m (by first | with_reducible assumption | with_reducible exact small_d (or_fl (by with_reducible assumption)) | (dsimp only; with_reducible exact small_d (or_fl (by with_reducible assumption))) | omega))] 105 [(2, vs s), (3, .ptr 0 0), (4, .ptr 1 0), (63, vb (urgentM (⟨(lSafeM_L1 h m s ([])), h.devices⟩ : Home) m))] [(lSafeM_c2 m), (lSafeM_c1 h)] 4 ?_
    refine AWp.cnd (urgentM (⟨(lSafeM_L1 h m s ([])), h.devices⟩ : Home) m) (fun h8 => ?_) (fun h8 => ?_)
    ·
     refine AWp.hz [.run 1] 105 [(6, vb false)] [] 4 ?_
     refine AWp.ret ?_
     exact leafR (r := vb false) (by unfold lSafeM; (try rw [h3]); (try rw [h8]); try kernel_rfl)
    ·
     refine AWp.skip ?_
     refine AWp.seq ?_
     refine AWp.join (Z 105 [(2, vs s), (3, .ptr 0 0), (4, .ptr 1 0), (73, vb (!(urgentM h m) || ((m.items.length : Int) == 0)))] [(1, .box 24 (avs (MsgV.cells m))), (0, .box 40 (avs (Home.cells h)))] 4) ?_ ?_
     ·
      refine AWp.region ?_
      refine AOps.hg [.run 2, .call 19 [.agg (avs (Home.cells h)), .agg (avs (MsgV.cells m))] (vb (urgentM h m)) [] 0 (urgentM_ok h m (by first | with_reducible assumption | with_reducible exact small_d (or_fl (by with_reducible assumption)) | (dsimp only; with_reducible exact small_d (or_fl (by with_reducible assumption))) | omega)), .run 2] (!(urgentM h m)) 105 (fun b_ => [(2, vs s), (3, .ptr 0 0), (4, .ptr 1 0), (68, vb b_)]) [(lSafeM_c2 m), (lSafeM_c1 h)] 4 (fun hg9 => ?_) (fun hg9 => ?_)
      ·
       refine AOps.he [.run 5] 105 [(2, vs s), (3, .ptr 0 0), (4, .ptr 1 0), (73, vb true)] [(lSafeM_c2 m), (lSafeM_c1 h)] 4 ?_
       exact leZ (by rw [hg9]; try kernel_rfl)
      ·
       refine AOps.hel [.run 2, .len ItemV.cells m.items 7, .run 2] 105 [(2, vs s), (3, .ptr 0 0), (4, .ptr 1 0), (73, vb ((m.items.length : Int) == 0))] [(lSafeM_c2 m), (lSafeM_c1 h)] 4 (fun hl => ?_)
       obtain ⟨hn10, -⟩ := hl
       exact leZ (by rw [hg9]; try kernel_rfl)
     ·
      refine AWp.cnd ((!(urgentM h m) || ((m.items.length : Int) == 0))) (fun h11 => ?_) (fun h11 => ?_)
      ·
       refine AWp.hz [.call 10 [] (vb (awakeM )) [] 0 (awakeM_ok ), .run 1] 105 [(6, vb (awakeM ))] [] 4 ?_
       refine AWp.ret ?_
       exact leafR (r := vb (awakeM )) (by unfold lSafeM; (try rw [h3]); (try rw [h8]); (try rw [h11]); try kernel_rfl)
      ·
       have h11l := or_fl h11
       have h11r := or_fr h11
       have h11r' := beq_f h11r
       refine AWp.skip ?_
       refine AWp.rg ?_
       refine AOps.hzl [.run 4, .len ItemV.cells m.items 7, .run 1] 105 [(2, vs s), (3, .ptr 0 0), (4, .ptr 1 0), (76, .rv (.sl 7 (m.items.map ItemV.cells))), (80, vi (IntKind.i64.wrap ((m.items.length : Int) - 1)))] [(lSafeM_c2 m), (lSafeM_c1 h)] 4 (fun hl => ?_)
       obtain ⟨hn12, -⟩ := hl
       have ht13 : IntKind.i64.wrap ((m.items.length : Int) - 1) = ((((m.items.length : Int) - 1).toNat : Nat) : Int) := by rw [wrap64_of _ (by omega) (by omega)]; exact (Int.toNat_of_nonneg (by omega)).symm
       obtain ⟨e3_, he3_⟩ := getEx (l := m.items) (j := ((m.items.length : Int) - 1).toNat) (by omega)
       refine AOps.he [.slot 80 (vi (IntKind.i64.wrap ((m.items.length : Int) - 1))) (vi ((((m.items.length : Int) - 1).toNat : Nat) : Int)) (congrArg vi ht13), .idx ItemV.cells m.items 7 (((m.items.length : Int) - 1).toNat) e3_ he3_, .run 3] 105 [(2, vs s), (3, .ptr 0 0), (4, .ptr 1 0), (13, .ptr 4 0)] [(4, .box 55 (avs (ItemV.cells e3_))), (lSafeM_c2 m), (lSafeM_c1 h)] 5 ?_
       refine AWp.hz [.run 4] 105 [(3, .ptr 0 0), (4, .ptr 1 0), (13, .ptr 4 0)] [(lSafeM_c3 s e3_), (lSafeM_c2 m), (lSafeM_c1 h)] 5 ?_
       refine AWp.hz [.run 3] 105 [(3, .ptr 0 0), (4, .ptr 1 0), (13, .ptr 4 0), (14, .ptr 5 0)] [(lSafeM_c7 m), (lSafeM_c3 s e3_), (lSafeM_c2 m), (lSafeM_c1 h)] 6 ?_
       refine AWp.seq ?_
       refine AWp.cut (fuel := 0) (m := [true, true, true, true, true, true, true, true, true]) (s := Z 105 [(3, .ptr 0 0), (14, .ptr 5 0)] [(lSafeM_c1 h), (5, .box 24 [vi m.kind, vi m.dev, vi m.epoch, vi m.version, .sl 6, vs m.cluster, vs m.name, vs m.data]), (lSafeM_c11 m s e3_)] 7) (AD.done ?_) (fun hd14 => ?_)
       ·
        refine AWp.seq ?_
        refine AWp.hz [.run 1, .callB 11 [] [] [.agg [vi m.kind, vi m.dev, vi m.epoch, vi m.version, .rv (.sl 7 ((m.items ++ [(⟨⟨e3_.key.dev, e3_.key.cluster, s⟩, e3_.value, e3_.version⟩ : ItemV)]).map ItemV.cells)), vs m.cluster, vs m.name, vs m.data]] (vi (mCheckM (⟨m.kind, m.dev, m.epoch, m.version, (m.items ++ [(⟨⟨e3_.key.dev, e3_.key.cluster, s⟩, e3_.value, e3_.version⟩ : ItemV)]), m.cluster, m.name, m.data⟩ : MsgV))) (mCheckM_ok (⟨m.kind, m.dev, m.epoch, m.version, (m.items ++ [(⟨⟨e3_.key.dev, e3_.key.cluster, s⟩, e3_.value, e3_.version⟩ : ItemV)]), m.cluster, m.name, m.data⟩ : MsgV) (by first | with_reducible assumption | with_reducible exact small_d (or_fl (by with_reducible assumption)) | (dsimp only; with_reducible exact small_d (or_fl (by with_reducible assumption))) | omega)), .run 1] 105 [(3, .ptr 0 0), (14, .ptr 5 0), (97, vb (mCheckM (⟨m.kind, m.dev, m.epoch, m.version, (m.items ++ [(⟨⟨e3_.key.dev, e3_.key.cluster, s⟩, e3_.value, e3_.version⟩ : ItemV)]), m.cluster, m.name, m.data⟩ : MsgV) != 0))] [(lSafeM_c1 h), (5, .box 24 [vi m.kind, vi m.dev, vi m.epoch, vi m.version, .sl 6, vs m.cluster, vs m.name, vs m.data]), (lSafeM_c11 m s e3_)] 7 ?_
        refine AWp.cnd ((mCheckM (⟨m.kind, m.dev, m.epoch, m.version, (m.items ++ [(⟨⟨e3_.key.dev, e3_.key.cluster, s⟩, e3_.value, e3_.version⟩ : ItemV)]), m.cluster, m.name, m.data⟩ : MsgV) != 0)) (fun h15 => ?_) (fun h15 => ?_)
        ·
         refine AWp.hz [.call 10 [] (vb (awakeM )) [] 0 (awakeM_ok ), .run 1] 105 [(6, vb (awakeM ))] [] 7 ?_
         refine AWp.ret ?_
         exact leafR (r := vb (awakeM )) (by unfold lSafeM; (try simp only [he3_]); (try rw [h3]); (try rw [h8]); (try rw [h11]); (try rw [h15]); try kernel_rfl)
        ·
         refine AWp.skip ?_
         refine AWp.join (Z 105 [(6, vb (urgentM h (⟨m.kind, m.dev, m.epoch, m.version, (m.items ++ [(⟨⟨e3_.key.dev, e3_.key.cluster, s⟩, e3_.value, e3_.version⟩ : ItemV)]), m.cluster, m.name, m.data⟩ : MsgV) && awakeM ))] [] 7) ?_ ?_
         ·
          refine AWp.region ?_
          refine AOps.hg [.run 2, .callB 19 [] [] [.agg (avs (Home.cells h)), .agg [vi m.kind, vi m.dev, vi m.epoch, vi m.version, .rv (.sl 7 ((m.items ++ [(⟨⟨e3_.key.dev, e3_.key.cluster, s⟩, e3_.value, e3_.version⟩ : ItemV)]).map ItemV.cells)), vs m.cluster, vs m.name, vs m.data]] (vb (urgentM h (⟨m.kind, m.dev, m.epoch, m.version, (m.items ++ [(⟨⟨e3_.key.dev, e3_.key.cluster, s⟩, e3_.value, e3_.version⟩ : ItemV)]), m.cluster, m.name, m.data⟩ : MsgV))) (urgentM_ok h (⟨m.kind, m.dev, m.epoch, m.version, (m.items ++ [(⟨⟨e3_.key.dev, e3_.key.cluster, s⟩, e3_.value, e3_.version⟩ : ItemV)]), m.cluster, m.name, m.data⟩ : MsgV) (by first | with_reducible assumption | with_reducible exact small_d (or_fl (by with_reducible assumption)) | (dsimp only; with_reducible exact small_d (or_fl (by with_reducible assumption))) | omega)), .run 1] (urgentM h (⟨m.kind, m.dev, m.epoch, m.version, (m.items ++ [(⟨⟨e3_.key.dev, e3_.key.cluster, s⟩, e3_.value, e3_.version⟩ : ItemV)]), m.cluster, m.name, m.data⟩ : MsgV)) 105 (fun b_ => [(102, vb b_)]) [] 7 (fun hg16 => ?_) (fun hg16 => ?_)
          ·
           refine AOps.he [.call 10 [] (vb (awakeM )) [] 0 (awakeM_ok ), .run 2] 105 [(6, vb (awakeM ))] [] 7 ?_
           exact leZ (by rw [hg16]; try kernel_rfl)
          ·
           refine AOps.he [.run 3] 105 [(6, vb false)] [] 7 ?_
           exact leZ (by rw [hg16]; try kernel_rfl)
         ·
          refine AWp.ret ?_
          exact leafR (r := vb (urgentM h (⟨m.kind, m.dev, m.epoch, m.version, (m.items ++ [(⟨⟨e3_.key.dev, e3_.key.cluster, s⟩, e3_.value, e3_.version⟩ : ItemV)]), m.cluster, m.name, m.data⟩ : MsgV) && awakeM )) (by unfold lSafeM; (try simp only [he3_]); (try rw [h3]); (try rw [h8]); (try rw [h11]); (try rw [h15]); try kernel_rfl)
       refine AWp.cut (fuel := 1) (m := [true, true, true, true, true, true, true, true, false]) (s := Z 105 [(3, .ptr 0 0), (14, .ptr 5 0), (93, .sl 6), (94, .ptr 5 4)] [(lSafeM_c1 h), (lSafeM_c7 m), (lSafeM_c11 m s e3_)] 7) (AD.step 8 [] (ADs.cons _ rfl (AOps.he [.run 1] _ _ _ _ ⟨rfl, rfl⟩) hd14 (ADs.nil))) (fun hd17 => ?_)
       refine AWp.cut (fuel := 2) (m := [true, true, true, true, true, true, true, false, false]) (s := Z 105 [(3, .ptr 0 0), (14, .ptr 5 0), (93, .sl 6)] [(lSafeM_c1 h), (lSafeM_c7 m), (lSafeM_c11 m s e3_)] 7) (AD.tk 7 _ _ _ _ hd17) (fun hd18 => ?_)
       refine AWp.cut (fuel := 3) (m := [true, true, true, true, true, true, false, false, false]) (s := Z 105 [(3, .ptr 0 0), (14, .ptr 5 0), (90, .sl 6), (lSafeM_c9 s e3_)] [(lSafeM_c1 h), (lSafeM_c7 m), (6, .row false 55 7 (m.items.map ItemV.cells))] 7) (AD.step 6 [] (ADs.cons _ rfl (AOps.he [.app ItemV.cells m.items ([(⟨⟨e3_.key.dev, e3_.key.cluster, s⟩, e3_.value, e3_.version⟩ : ItemV)]) 6 55 7 80 (apSz (by have := small_l (m := m) (or_fl (by assumption)); simp; omega))] _ _ _ _ ⟨rfl, rfl⟩) hd18 (ADs.nil))) (fun hd19 => ?_)
       refine AWp.cut (fuel := 4) (m := [true, true, true, true, true, false, false, false, false]) (s := Z 105 [(3, .ptr 0 0), (14, .ptr 5 0), (90, .sl 6), (lSafeM_c6 s e3_)] [(lSafeM_c1 h), (lSafeM_c7 m), (6, .row false 55 7 (m.items.map ItemV.cells))] 7) (AD.step 5 [] (ADs.cons _ rfl (AOps.he [.lit 55 7 (List.map ItemV.cells [(⟨⟨e3_.key.dev, e3_.key.cluster, s⟩, e3_.value, e3_.version⟩ : ItemV)])] _ _ _ _ ⟨rfl, rfl⟩) hd19 (ADs.nil))) (fun hd20 => ?_)
       refine AWp.cut (fuel := 4) (m := [true, true, true, false, true, true, false, false, false]) (s := Z 105 [(3, .ptr 0 0), (14, .ptr 5 0), (87, .sl 6), (lSafeM_c16 m), (lSafeM_c9 s e3_)] [(lSafeM_c1 h), (lSafeM_c7 m), (6, .row false 55 7 ([]))] 7) (AD.step 3 [] (ADs.cons _ rfl (AOps.he [.app ItemV.cells ([]) m.items 6 55 7 80 (apSz (by have := small_l (m := m) (or_fl (by assumption)); simp; omega))] _ _ _ _ ⟨rfl, rfl⟩) hd19 (ADs.nil))) (fun hd21 => ?_)
       refine AWp.cut (fuel := 5) (m := [true, true, true, true, false, false, false, false, false]) (s := Z 105 [(3, .ptr 0 0), (13, .ptr 4 0), (14, .ptr 5 0), (90, .sl 6)] [(lSafeM_c1 h), (lSafeM_c3 s e3_), (lSafeM_c7 m), (6, .row false 55 7 (m.items.map ItemV.cells))] 7) (AD.step 4 [] (ADs.cons _ rfl (AOps.he [.run 1] _ _ _ _ ⟨rfl, rfl⟩) hd20 (ADs.nil))) (fun hd22 => ?_)
       refine AWp.cut (fuel := 5) (m := [true, true, true, false, true, false, false, false, false]) (s := Z 105 [(3, .ptr 0 0), (14, .ptr 5 0), (87, .sl 6), (lSafeM_c16 m), (lSafeM_c6 s e3_)] [(lSafeM_c1 h), (lSafeM_c7 m), (6, .row false 55 7 ([]))] 7) (AD.step 3 [5] (ADs.cons _ rfl (AOps.he [.app ItemV.cells ([]) m.items 6 55 7 80 (apSz (by have := small_l (m := m) (or_fl (by assumption)); simp; omega))] _ _ _ _ ⟨rfl, rfl⟩) hd20 (ADs.cons _ rfl (AOps.he [.lit 55 7 (List.map ItemV.cells [(⟨⟨e3_.key.dev, e3_.key.cluster, s⟩, e3_.value, e3_.version⟩ : ItemV)])] _ _ _ _ ⟨rfl, rfl⟩) hd21 (ADs.nil)))) (fun hd23 => ?_)
       refine AWp.cut (fuel := 5) (m := [true, true, false, false, true, true, false, false, false]) (s := Z 105 [(3, .ptr 0 0), (14, .ptr 5 0), (87, .sl 6), (88, .ptr 1 4), (lSafeM_c9 s e3_)] [(lSafeM_c1 h), (lSafeM_c2 m), (lSafeM_c7 m), (6, .row false 55 7 ([]))] 7) (AD.step 2 [] (ADs.cons _ rfl (AOps.he [.run 1] _ _ _ _ ⟨rfl, rfl⟩) hd21 (ADs.nil))) (fun hd24 => ?_)
       refine AWp.cut (fuel := 5) (m := [false, true, true, false, true, true, false, false, false]) (s := Z 105 [(3, .ptr 0 0), (14, .ptr 5 0), (lSafeM_c16 m), (lSafeM_c9 s e3_)] [(lSafeM_c1 h), (lSafeM_c7 m)] 6) (AD.step 0 [] (ADs.cons _ rfl (AOps.he [.row 55 7 []] _ _ _ _ ⟨rfl, rfl⟩) hd21 (ADs.nil))) (fun hd25 => ?_)
       refine AWp.cut (fuel := 6) (m := [true, true, true, false, false, false, false, false, false]) (s := Z 105 [(3, .ptr 0 0), (13, .ptr 4 0), (14, .ptr 5 0), (87, .sl 6), (lSafeM_c16 m)] [(lSafeM_c1 h), (lSafeM_c3 s e3_), (lSafeM_c7 m), (6, .row false 55 7 ([]))] 7) (AD.step 3 [4] (ADs.cons _ rfl (AOps.he [.app ItemV.cells ([]) m.items 6 55 7 80 (apSz (by have := small_l (m := m) (or_fl (by assumption)); simp; omega))] _ _ _ _ ⟨rfl, rfl⟩) hd22 (ADs.cons _ rfl (AOps.he [.run 1] _ _ _ _ ⟨rfl, rfl⟩) hd23 (ADs.nil)))) (fun hd26 => ?_)
       refine AWp.cut (fuel := 6) (m := [true, true, false, false, true, false, false, false, false]) (s := Z 105 [(3, .ptr 0 0), (14, .ptr 5 0), (87, .sl 6), (88, .ptr 1 4), (lSafeM_c6 s e3_)] [(lSafeM_c1 h), (lSafeM_c2 m), (lSafeM_c7 m), (6, .row false 55 7 ([]))] 7) (AD.step 2 [5] (ADs.cons _ rfl (AOps.he [.run 1] _ _ _ _ ⟨rfl, rfl⟩) hd23 (ADs.cons _ rfl (AOps.he [.lit 55 7 (List.map ItemV.cells [(⟨⟨e3_.key.dev, e3_.key.cluster, s⟩, e3_.value, e3_.version⟩ : ItemV)])] _ _ _ _ ⟨rfl, rfl⟩) hd24 (ADs.nil)))) (fun hd27 => ?_)
       refine AWp.cutK (wr := [true, false, false, true, false, true, true, false, true]) (fuel := 6) (m := [false, true, true, false, true, false, false, false, false]) (s := Z 105 [(3, .ptr 0 0), (14, .ptr 5 0), (lSafeM_c16 m), (lSafeM_c6 s e3_)] [(lSafeM_c1 h), (lSafeM_c7 m)] 6) (KD.step 0 [5] (KDs.w _ rfl rfl (AOps.he [.row 55 7 []] _ _ _ _ ⟨rfl, rfl⟩) hd23 (KDs.w _ rfl rfl (AOps.he [.lit 55 7 (List.map ItemV.cells [(⟨⟨e3_.key.dev, e3_.key.cluster, s⟩, e3_.value, e3_.version⟩ : ItemV)])] _ _ _ _ ⟨rfl, rfl⟩) hd25 (KDs.nil)))) (fun hd28 => ?_)
       refine AWp.cut (fuel := 6) (m := [false, true, false, false, true, true, false, false, false]) (s := Z 105 [(3, .ptr 0 0), (14, .ptr 5 0), (88, .ptr 1 4), (lSafeM_c9 s e3_)] [(lSafeM_c1 h), (lSafeM_c2 m), (lSafeM_c7 m)] 6) (AD.step 0 [2] (ADs.cons _ rfl (AOps.he [.row 55 7 []] _ _ _ _ ⟨rfl, rfl⟩) hd24 (ADs.cons _ rfl (AOps.he [.run 1] _ _ _ _ ⟨rfl, rfl⟩) hd25 (ADs.nil)))) (fun hd29 => ?_)
       refine AWp.cut (fuel := 7) (m := [true, true, false, false, false, false, false, false, false]) (s := Z 105 [(3, .ptr 0 0), (13, .ptr 4 0), (14, .ptr 5 0), (87, .sl 6), (88, .ptr 1 4)] [(lSafeM_c1 h), (lSafeM_c2 m), (lSafeM_c3 s e3_), (lSafeM_c7 m), (6, .row false 55 7 ([]))] 7) (AD.step 2 [4] (ADs.cons _ rfl (AOps.he [.run 1] _ _ _ _ ⟨rfl, rfl⟩) hd26 (ADs.cons _ rfl (AOps.he [.run 1] _ _ _ _ ⟨rfl, rfl⟩) hd27 (ADs.nil)))) (fun hd30 => ?_)
       refine AWp.cutK (wr := [true, false, false, true, false, true, true, false, true]) (fuel := 7) (m := [false, true, true, false, false, false, false, false, false]) (s := Z 105 [(3, .ptr 0 0), (13, .ptr 4 0), (14, .ptr 5 0), (lSafeM_c16 m)] [(lSafeM_c1 h), (lSafeM_c3 s e3_), (lSafeM_c7 m)] 6) (KD.step 0 [4] (KDs.w _ rfl rfl (AOps.he [.row 55 7 []] _ _ _ _ ⟨rfl, rfl⟩) hd26 (KDs.k _ rfl rfl (KOp.run _ _ _ _) hd28 (KDs.nil)))) (fun hd31 => ?_)
       refine AWp.cutK (wr := [true, false, false, true, false, true, true, false, true]) (fuel := 7) (m := [false, true, false, false, true, false, false, false, false]) (s := Z 105 [(3, .ptr 0 0), (14, .ptr 5 0), (88, .ptr 1 4), (lSafeM_c6 s e3_)] [(lSafeM_c1 h), (lSafeM_c2 m), (lSafeM_c7 m)] 6) (KD.step 0 [2, 5] (KDs.w _ rfl rfl (AOps.he [.row 55 7 []] _ _ _ _ ⟨rfl, rfl⟩) hd27 (KDs.k _ rfl rfl (KOp.run _ _ _ _) hd28 (KDs.w _ rfl rfl (AOps.he [.lit 55 7 (List.map ItemV.cells [(⟨⟨e3_.key.dev, e3_.key.cluster, s⟩, e3_.value, e3_.version⟩ : ItemV)])] _ _ _ _ ⟨rfl, rfl⟩) hd29 (KDs.nil))))) (fun hd32 => ?_)
       refine AWp.cut (fuel := 7) (m := [true, false, false, false, true, false, false, false, false]) (s := Z 105 [(3, .ptr 0 0), (4, .ptr 1 0), (14, .ptr 5 0), (87, .sl 6), (lSafeM_c6 s e3_)] [(lSafeM_c1 h), (lSafeM_c2 m), (lSafeM_c7 m), (6, .row false 55 7 ([]))] 7) (AD.tk 1 _ _ _ _ hd27) (fun hd33 => ?_)
       refine AWp.cut (fuel := 7) (m := [false, false, false, false, true, true, false, false, false]) (s := Z 105 [(3, .ptr 0 0), (4, .ptr 1 0), (14, .ptr 5 0), (lSafeM_c9 s e3_)] [(lSafeM_c1 h), (lSafeM_c2 m), (lSafeM_c7 m)] 6) (AD.tk 1 _ _ _ _ hd29) (fun hd34 => ?_)
       refine AWp.cut (fuel := 8) (m := [true, false, false, false, false, false, false, false, false]) (s := Z 105 [(3, .ptr 0 0), (4, .ptr 1 0), (13, .ptr 4 0), (14, .ptr 5 0), (87, .sl 6)] [(lSafeM_c1 h), (lSafeM_c2 m), (lSafeM_c3 s e3_), (lSafeM_c7 m), (6, .row false 55 7 ([]))] 7) (AD.tk 1 _ _ _ _ hd30) (fun hd35 => ?_)
       refine AWp.cutK (wr := [true, false, false, true, false, true, true, false, true]) (fuel := 8) (m := [false, true, false, false, false, false, false, false, false]) (s := Z 105 [(3, .ptr 0 0), (13, .ptr 4 0), (14, .ptr 5 0), (88, .ptr 1 4)] [(lSafeM_c1 h), (lSafeM_c2 m), (lSafeM_c3 s e3_), (lSafeM_c7 m)] 6) (KD.step 0 [2, 4] (KDs.w _ rfl rfl (AOps.he [.row 55 7 []] _ _ _ _ ⟨rfl, rfl⟩) hd30 (KDs.k _ rfl rfl (KOp.run _ _ _ _) hd31 (KDs.k _ rfl rfl (KOp.run _ _ _ _) hd32 (KDs.nil))))) (fun hd36 => ?_)
       refine AWp.cutK (wr := [true, false, false, true, false, true, true, false, true]) (fuel := 8) (m := [false, false, false, false, true, false, false, false, false]) (s := Z 105 [(3, .ptr 0 0), (4, .ptr 1 0), (14, .ptr 5 0), (lSafeM_c6 s e3_)] [(lSafeM_c1 h), (lSafeM_c2 m), (lSafeM_c7 m)] 6) (KD.step 0 [1, 5] (KDs.w _ rfl rfl (AOps.he [.row 55 7 []] _ _ _ _ ⟨rfl, rfl⟩) hd33 (KDs.k _ rfl rfl (KOp.run _ _ _ _) hd32 (KDs.w _ rfl rfl (AOps.he [.lit 55 7 (List.map ItemV.cells [(⟨⟨e3_.key.dev, e3_.key.cluster, s⟩, e3_.value, e3_.version⟩ : ItemV)])] _ _ _ _ ⟨rfl, rfl⟩) hd34 (KDs.nil))))) (fun hd37 => ?_)
       refine AWp.cutK (wr := [true, false, false, true, false, true, true, false, true]) (fuel := 9) (m := [false, false, false, false, false, false, false, false, false]) (s := Z 105 [(3, .ptr 0 0), (4, .ptr 1 0), (13, .ptr 4 0), (14, .ptr 5 0)] [(lSafeM_c1 h), (lSafeM_c2 m), (lSafeM_c3 s e3_), (lSafeM_c7 m)] 6) (KD.step 0 [1, 4] (KDs.w _ rfl rfl (AOps.he [.row 55 7 []] _ _ _ _ ⟨rfl, rfl⟩) hd35 (KDs.k _ rfl rfl (KOp.run _ _ _ _) hd36 (KDs.k _ rfl rfl (KOp.run _ _ _ _) hd37 (KDs.nil))))) (fun hd38 => ?_)
       exact AWp.drawnA 9 leZ (KD.ad hd38)
end Go.Proofs.Ytnnlaccdendkpaa
