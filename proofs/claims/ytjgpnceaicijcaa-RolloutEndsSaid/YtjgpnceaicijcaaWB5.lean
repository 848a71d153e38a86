/- Rollout: plans, what the laws ask. -/
import Derived.Test.YtjgpnceaicijcaaWB3
namespace Go.Proofs.Ytjgpnceaicijcaa
open Go Go.Av Go.Hh Go.Proofs
set_option maxRecDepth 100000
set_option maxHeartbeats 4000000
def newM_B1 (h : Home) (f : Firmware) (v : List Pair) (k1_ : Nat) (x_ : (List Update)) : (List Update) :=
  match x_ with
  | (a1_0) => (match (h.devices)[k1_]? with | some e1_ => (bif (e1_.vendor == f.vendor) then ((a1_0 ++ [(⟨e1_.id, 0, versionM v e1_.id, versionM v e1_.id, 0, (List.replicate f.sums.length false)⟩ : Update)])) else (a1_0)) | none => x_)
def newM_L1 (h : Home) (f : Firmware) (v : List Pair) (x_ : (List Update)) : (List Update) := iterN (newM_B1 h f v) 0 h.devices.length x_
def newM (h : Home) (f : Firmware) (v : List Pair) : List Update × Int :=
  (bif (devCheckM h != 0) then ([], devCheckM h) else (bif (fwCheckM f != 0) then ([], fwCheckM f) else ((newM_L1 h f v ([])), 0)))
theorem newM_ok (h : Home) (f : Firmware) (v : List Pair) (hd : h.devices.length ≤ 1000000) (hs : f.sums.length ≤ 1000000) :
 ACalls Try.prog G_ 10 [.agg (avs (Home.cells h)), .agg (avs (Firmware.cells f)), .rv (.sl 2 (v.map Pair.cells))] [] 0 (fun r τ => r = .tuple [.rv (.sl 6 (((newM h f v).1).map Update.cells)), vi ((newM h f v).2)] ∧ τ = []) := by
 refine ACalls.body Try.func10 rfl 54 [(0, .agg (avs (Home.cells h))), (1, .agg (avs (Firmware.cells f))), (2, .rv (.sl 2 (v.map Pair.cells)))] ?_
 refine AWp.hz [.run 4] 54 [(2, .rv (.sl 2 (v.map Pair.cells))), (3, .ptr 0 0), (4, .ptr 1 0)] [(1, .box 28 (avs (Firmware.cells f))), (0, .box 25 (avs (Home.cells h)))] 2 ?_
 refine AWp.seq ?_
 refine AWp.hz [.run 1, .call 30 [.agg (avs (Home.cells h))] (vi (devCheckM h)) [] 0 (devCheckM_ok h), .run 1] 54 [(2, .rv (.sl 2 (v.map Pair.cells))), (3, .ptr 0 0), (4, .ptr 1 0), (8, vi (devCheckM h))] [(1, .box 28 (avs (Firmware.cells f))), (0, .box 25 (avs (Home.cells h)))] 2 ?_
 refine AWp.hz [.run 2] 54 [(2, .rv (.sl 2 (v.map Pair.cells))), (3, .ptr 0 0), (4, .ptr 1 0), (8, vi (devCheckM h)), (17, vb (devCheckM h != 0))] [(1, .box 28 (avs (Firmware.cells f))), (0, .box 25 (avs (Home.cells h)))] 2 ?_
 refine AWp.cnd ((devCheckM h != 0)) (fun h1 => ?_) (fun h1 => ?_)
 ·
  refine AWp.hz [.run 3] 54 [(6, .rv (.v (.slice none 0 0))), (7, vi (devCheckM h))] [] 2 ?_
  refine AWp.le (Le.nils (s' := Z 54 [(6, .rv (.sl 6 (([]).map Update.cells))), (7, vi (devCheckM h))] [] 2) 6 [some 6] (by kernel_rfl)) ?_
  refine AWp.ret ?_
  exact leafR (r := .tuple [.rv (.sl 6 (([]).map Update.cells)), vi (devCheckM h)]) (by show (.tuple [.rv (.sl 6 (([]).map Update.cells)), vi (devCheckM h)] : AV) = .tuple [.rv (.sl 6 (((newM h f v).1).map Update.cells)), vi ((newM h f v).2)]; unfold newM; (try rw [h1]); first | done | kernel_rfl)
 ·
  refine AWp.skip ?_
  refine AWp.seq ?_
  refine AWp.hz [.run 1, .call 31 [.agg (avs (Firmware.cells f))] (vi (fwCheckM f)) [] 0 (fwCheckM_ok f), .run 1] 54 [(2, .rv (.sl 2 (v.map Pair.cells))), (3, .ptr 0 0), (4, .ptr 1 0), (9, vi (fwCheckM f))] [(1, .box 28 (avs (Firmware.cells f))), (0, .box 25 (avs (Home.cells h)))] 2 ?_
  refine AWp.hz [.run 2] 54 [(2, .rv (.sl 2 (v.map Pair.cells))), (3, .ptr 0 0), (4, .ptr 1 0), (9, vi (fwCheckM f)), (22, vb (fwCheckM f != 0))] [(1, .box 28 (avs (Firmware.cells f))), (0, .box 25 (avs (Home.cells h)))] 2 ?_
  refine AWp.cnd ((fwCheckM f != 0)) (fun h2 => ?_) (fun h2 => ?_)
  ·
   refine AWp.hz [.run 3] 54 [(6, .rv (.v (.slice none 0 0))), (7, vi (fwCheckM f))] [] 2 ?_
   refine AWp.le (Le.nils (s' := Z 54 [(6, .rv (.sl 6 (([]).map Update.cells))), (7, vi (fwCheckM f))] [] 2) 6 [some 6] (by kernel_rfl)) ?_
   refine AWp.ret ?_
   exact leafR (r := .tuple [.rv (.sl 6 (([]).map Update.cells)), vi (fwCheckM f)]) (by show (.tuple [.rv (.sl 6 (([]).map Update.cells)), vi (fwCheckM f)] : AV) = .tuple [.rv (.sl 6 (((newM h f v).1).map Update.cells)), vi ((newM h f v).2)]; unfold newM; (try rw [h1]); (try rw [h2]); first | done | kernel_rfl)
  ·
   refine AWp.skip ?_
   refine AWp.hz [.run 1] 54 [(2, .rv (.sl 2 (v.map Pair.cells))), (3, .ptr 0 0), (4, .ptr 1 0), (10, .rv (.v (.slice none 0 0)))] [(1, .box 28 (avs (Firmware.cells f))), (0, .box 25 (avs (Home.cells h)))] 2 ?_
   refine AWp.seq ?_
   refine AWp.hzl [.run 2, .len Dev.cells h.devices 7, .run 1] 54 [(2, .rv (.sl 2 (v.map Pair.cells))), (4, .ptr 1 0), (10, .rv (.v (.slice none 0 0))), (25, .rv (.sl 7 (h.devices.map Dev.cells))), (26, vi ((h.devices.length : Nat) : Int)), (27, vi 0)] [(1, .box 28 (avs (Firmware.cells f)))] 2 (fun hl => ?_)
   obtain ⟨hn3, -⟩ := hl
   refine AWp.nrow 10 54 6 ?_
   refine AWp.joinE1 (A := (List Update)) (fun x_ => Z 54 [(10, .sl 2)] [(2, .row false 54 6 (x_.map Update.cells))] 3) (fun x_ => x_ = (newM_L1 h f v ([])) ∧ x_.length ≤ 0 + h.devices.length) ?_ ?_
   ·
    refine AWp.block ?_
    refine AWp.loop (ι := Nat × ((List Update))) (fun x_ => Z 54 [(2, .rv (.sl 2 (v.map Pair.cells))), (4, .ptr 1 0), (10, .sl 2), (25, .rv (.sl 7 (h.devices.map Dev.cells))), (26, vi ((h.devices.length : Nat) : Int)), (27, vi ((x_.1 : Nat) : Int))] [(2, .row false 54 6 (x_.2.map Update.cells)), (1, .box 28 (avs (Firmware.cells f)))] 3) (fun x_ => x_.1 ≤ h.devices.length ∧ (newM_L1 h f v ([])) = iterN (newM_B1 h f v) x_.1 (h.devices.length - x_.1) x_.2 ∧ x_.2.length ≤ 0 + x_.1) (fun x_ => h.devices.length - x_.1) (0, ([])) leZ ⟨Nat.zero_le _, rfl, Nat.le_refl _⟩ ?_
    rintro ⟨k1_, a1_0⟩ ⟨hk1_, hs1_, hl1_0⟩
    try dsimp only at hk1_
    try dsimp only at hs1_
    try dsimp only at hl1_0
    refine AWp.cv 54 [(2, .rv (.sl 2 (v.map Pair.cells))), (4, .ptr 1 0), (10, .sl 2), (25, .rv (.sl 7 (h.devices.map Dev.cells))), (26, vi ((h.devices.length : Nat) : Int)), (27, vi ((k1_ : Nat) : Int))] [(2, .row false 54 6 (a1_0.map Update.cells)), (1, .box 28 (avs (Firmware.cells f)))] 3 ?_
    refine AWp.hz [.run 1] 54 [(2, .rv (.sl 2 (v.map Pair.cells))), (4, .ptr 1 0), (10, .sl 2), (25, .rv (.sl 7 (h.devices.map Dev.cells))), (26, vi ((h.devices.length : Nat) : Int)), (27, vi ((k1_ : Nat) : Int)), (28, vb (decide (((k1_ : Nat) : Int) < ((h.devices.length : Nat) : Int))))] [(2, .row false 54 6 (a1_0.map Update.cells)), (1, .box 28 (avs (Firmware.cells f)))] 3 ?_
    refine AWp.seq ?_
    refine AWp.cnd (decide (((k1_ : Nat) : Int) < ((h.devices.length : Nat) : Int))) (fun h4 => ?_) (fun h4 => ?_)
    ·
     have h4' := of_decide_eq_true h4
     refine AWp.skip ?_
     refine AWp.seq ?_
     refine AWp.block ?_
     obtain ⟨e1_, he1_⟩ := getEx (l := h.devices) (j := k1_) (by omega)
     refine AWp.hz [.idx Dev.cells h.devices 7 k1_ e1_ he1_, .run 3] 54 [(2, .rv (.sl 2 (v.map Pair.cells))), (4, .ptr 1 0), (10, .sl 2), (12, .ptr 3 0), (25, .rv (.sl 7 (h.devices.map Dev.cells))), (26, vi ((h.devices.length : Nat) : Int)), (27, vi ((k1_ : Nat) : Int))] [(3, .box 49 (avs (Dev.cells e1_))), (2, .row false 54 6 (a1_0.map Update.cells)), (1, .box 28 (avs (Firmware.cells f)))] 4 ?_
     refine AWp.hz [.run 5] 54 [(2, .rv (.sl 2 (v.map Pair.cells))), (4, .ptr 1 0), (10, .sl 2), (12, .ptr 3 0), (25, .rv (.sl 7 (h.devices.map Dev.cells))), (26, vi ((h.devices.length : Nat) : Int)), (27, vi ((k1_ : Nat) : Int)), (35, vb (e1_.vendor == f.vendor))] [(3, .box 49 (avs (Dev.cells e1_))), (2, .row false 54 6 (a1_0.map Update.cells)), (1, .box 28 (avs (Firmware.cells f)))] 4 ?_
     refine AWp.cnd ((e1_.vendor == f.vendor)) (fun h5 => ?_) (fun h5 => ?_)
     ·
      refine AWp.hz [.run 3, .call 32 [.rv (.sl 2 (v.map Pair.cells)), vi e1_.id] (vi (versionM v e1_.id)) [] 0 (versionM_ok v e1_.id), .run 1] 54 [(2, .rv (.sl 2 (v.map Pair.cells))), (4, .ptr 1 0), (10, .sl 2), (12, .ptr 3 0), (13, vi (versionM v e1_.id)), (25, .rv (.sl 7 (h.devices.map Dev.cells))), (26, vi ((h.devices.length : Nat) : Int)), (27, vi ((k1_ : Nat) : Int))] [(3, .box 49 (avs (Dev.cells e1_))), (2, .row false 54 6 (a1_0.map Update.cells)), (1, .box 28 (avs (Firmware.cells f)))] 4 ?_
      refine AWp.cut (fuel := 0) (m := [true, true, true, true, true, true, true, true, true, true, true, true, true]) (s := Z 54 [(2, .rv (.sl 2 (v.map Pair.cells))), (4, .ptr 1 0), (10, .sl 2), (25, .rv (.sl 7 (h.devices.map Dev.cells))), (26, vi ((h.devices.length : Nat) : Int)), (27, vi ((k1_ : Nat) : Int))] [(1, .box 28 (avs (Firmware.cells f))), (2, .row false 54 6 ((a1_0 ++ [(⟨e1_.id, 0, versionM v e1_.id, versionM v e1_.id, 0, (List.replicate f.sums.length false)⟩ : Update)]).map Update.cells))] 5) (AD.done ?_) (fun hd6 => ?_)
      ·
       refine AWp.he [.cast (vi (IntKind.i64.wrap (((k1_ : Nat) : Int) + 1))) (vi ((k1_ + 1 : Nat) : Int)) (congrArg vi (wrap_nat (by omega))), .run 1] 54 [(2, .rv (.sl 2 (v.map Pair.cells))), (4, .ptr 1 0), (10, .sl 2), (25, .rv (.sl 7 (h.devices.map Dev.cells))), (26, vi ((h.devices.length : Nat) : Int)), (27, vi ((k1_ + 1 : Nat) : Int))] [(1, .box 28 (avs (Firmware.cells f))), (2, .row false 54 6 ((a1_0 ++ [(⟨e1_.id, 0, versionM v e1_.id, versionM v e1_.id, 0, (List.replicate f.sums.length false)⟩ : Update)]).map Update.cells))] 5 ?_
       exact ⟨(k1_ + 1, ((a1_0 ++ [(⟨e1_.id, 0, versionM v e1_.id, versionM v e1_.id, 0, (List.replicate f.sums.length false)⟩ : Update)]))), ⟨by show k1_ + 1 ≤ _; omega, iterN_next hs1_ (by omega) (by unfold newM_B1; (try dsimp only); (try simp only [he1_]); (try rw [h4]); (try rw [h5]); first | done | kernel_rfl), by first | assumption | (simp only [List.length_set, List.length_append, List.length_cons, List.length_nil]; first | done | assumption | omega) | omega⟩, by show _ - (k1_ + 1) < _ - k1_; omega, leG⟩
      refine AWp.cut (fuel := 1) (m := [true, true, true, true, true, true, true, true, true, true, true, true, false]) (s := Z 54 [(2, .rv (.sl 2 (v.map Pair.cells))), (4, .ptr 1 0), (25, .rv (.sl 7 (h.devices.map Dev.cells))), (26, vi ((h.devices.length : Nat) : Int)), (27, vi ((k1_ : Nat) : Int)), (51, .sl 2)] [(1, .box 28 (avs (Firmware.cells f))), (2, .row false 54 6 ((a1_0 ++ [(⟨e1_.id, 0, versionM v e1_.id, versionM v e1_.id, 0, (List.replicate f.sums.length false)⟩ : Update)]).map Update.cells))] 5) (AD.tk 12 _ _ _ _ hd6) (fun hd7 => ?_)
      refine AWp.cut (fuel := 2) (m := [true, true, true, true, true, true, true, true, true, true, true, false, false]) (s := Z 54 [(2, .rv (.sl 2 (v.map Pair.cells))), (4, .ptr 1 0), (10, .sl 2), (25, .rv (.sl 7 (h.devices.map Dev.cells))), (26, vi ((h.devices.length : Nat) : Int)), (27, vi ((k1_ : Nat) : Int)), (40, .sl 2), (50, .rv (.sl 6 (([(⟨e1_.id, 0, versionM v e1_.id, versionM v e1_.id, 0, (List.replicate f.sums.length false)⟩ : Update)]).map Update.cells)))] [(1, .box 28 (avs (Firmware.cells f))), (2, .row false 54 6 (a1_0.map Update.cells))] 5) (AD.step 11 [] (ADs.cons _ rfl (AOps.he [.app Update.cells a1_0 ([(⟨e1_.id, 0, versionM v e1_.id, versionM v e1_.id, 0, (List.replicate f.sums.length false)⟩ : Update)]) 2 54 6 64 (apSz (by simp; omega))] _ _ _ _ ⟨rfl, rfl⟩) hd7 (ADs.nil))) (fun hd8 => ?_)
      refine AWp.cut (fuel := 3) (m := [true, true, true, true, true, true, true, true, true, true, false, false, false]) (s := Z 54 [(2, .rv (.sl 2 (v.map Pair.cells))), (4, .ptr 1 0), (10, .sl 2), (25, .rv (.sl 7 (h.devices.map Dev.cells))), (26, vi ((h.devices.length : Nat) : Int)), (27, vi ((k1_ : Nat) : Int)), (40, .sl 2), (49, .agg [vi e1_.id, vi 0, vi (versionM v e1_.id), vi (versionM v e1_.id), vi 0, .sl 4])] [(1, .box 28 (avs (Firmware.cells f))), (2, .row false 54 6 (a1_0.map Update.cells)), (4, .row false 4 1 ((List.replicate f.sums.length false).map boolC))] 5) (AD.step 10 [] (ADs.cons _ rfl (AOps.he [.frz 4, .lit 54 6 (List.map Update.cells [(⟨e1_.id, 0, versionM v e1_.id, versionM v e1_.id, 0, (List.replicate f.sums.length false)⟩ : Update)])] _ _ _ _ ⟨rfl, rfl⟩) hd8 (ADs.nil))) (fun hd9 => ?_)
      refine AWp.cut (fuel := 4) (m := [true, true, true, true, true, true, true, true, true, false, false, false, false]) (s := Z 54 [(2, .rv (.sl 2 (v.map Pair.cells))), (4, .ptr 1 0), (10, .sl 2), (25, .rv (.sl 7 (h.devices.map Dev.cells))), (26, vi ((h.devices.length : Nat) : Int)), (27, vi ((k1_ : Nat) : Int)), (40, .sl 2), (42, vi e1_.id), (43, vi (versionM v e1_.id)), (44, vi (versionM v e1_.id)), (48, .sl 4)] [(1, .box 28 (avs (Firmware.cells f))), (2, .row false 54 6 (a1_0.map Update.cells)), (4, .row false 4 1 ((List.replicate f.sums.length false).map boolC))] 5) (AD.step 9 [] (ADs.cons _ rfl (AOps.he [.run 1] _ _ _ _ ⟨rfl, rfl⟩) hd9 (ADs.nil))) (fun hd10 => ?_)
      refine AWp.cut (fuel := 5) (m := [true, true, true, true, true, true, true, true, false, false, false, false, false]) (s := Z 54 [(2, .rv (.sl 2 (v.map Pair.cells))), (4, .ptr 1 0), (10, .sl 2), (25, .rv (.sl 7 (h.devices.map Dev.cells))), (26, vi ((h.devices.length : Nat) : Int)), (27, vi ((k1_ : Nat) : Int)), (40, .sl 2), (42, vi e1_.id), (43, vi (versionM v e1_.id)), (44, vi (versionM v e1_.id)), (47, vi ((f.sums.length : Nat) : Int))] [(1, .box 28 (avs (Firmware.cells f))), (2, .row false 54 6 (a1_0.map Update.cells))] 4) (AD.step 8 [] (ADs.cons _ rfl (AOps.he [.mk boolC false f.sums.length f.sums.length 4 1 1 (mkSz (by first | omega | (simp; omega)))] _ _ _ _ ⟨rfl, rfl⟩) hd10 (ADs.nil))) (fun hd11 => ?_)
      refine AWp.cut (fuel := 5) (m := [true, true, false, true, true, true, true, true, true, false, false, false, false]) (s := Z 54 [(2, .rv (.sl 2 (v.map Pair.cells))), (4, .ptr 1 0), (10, .sl 2), (25, .rv (.sl 7 (h.devices.map Dev.cells))), (26, vi ((h.devices.length : Nat) : Int)), (27, vi ((k1_ : Nat) : Int)), (40, .sl 2), (41, .ptr 3 0), (43, vi (versionM v e1_.id)), (44, vi (versionM v e1_.id)), (48, .sl 4)] [(1, .box 28 (avs (Firmware.cells f))), (2, .row false 54 6 (a1_0.map Update.cells)), (3, .box 49 (avs (Dev.cells e1_))), (4, .row false 4 1 ((List.replicate f.sums.length false).map boolC))] 5) (AD.step 2 [] (ADs.cons _ rfl (AOps.he [.run 1] _ _ _ _ ⟨rfl, rfl⟩) hd10 (ADs.nil))) (fun hd12 => ?_)
      refine AWp.cut (fuel := 6) (m := [true, true, true, true, true, true, true, false, false, false, false, false, false]) (s := Z 54 [(2, .rv (.sl 2 (v.map Pair.cells))), (4, .ptr 1 0), (10, .sl 2), (25, .rv (.sl 7 (h.devices.map Dev.cells))), (26, vi ((h.devices.length : Nat) : Int)), (27, vi ((k1_ : Nat) : Int)), (40, .sl 2), (42, vi e1_.id), (43, vi (versionM v e1_.id)), (44, vi (versionM v e1_.id)), (46, .rv (.sl 1 (f.sums.map intC)))] [(1, .box 28 (avs (Firmware.cells f))), (2, .row false 54 6 (a1_0.map Update.cells))] 4) (AD.step 7 [] (ADs.cons _ rfl ?_ hd11 (ADs.nil))) (fun hd13 => ?_)
      ·
       refine AOps.hel [.len intC f.sums 1] 54 [(2, .rv (.sl 2 (v.map Pair.cells))), (4, .ptr 1 0), (10, .sl 2), (25, .rv (.sl 7 (h.devices.map Dev.cells))), (26, vi ((h.devices.length : Nat) : Int)), (27, vi ((k1_ : Nat) : Int)), (40, .sl 2), (42, vi e1_.id), (43, vi (versionM v e1_.id)), (44, vi (versionM v e1_.id)), (47, vi ((f.sums.length : Nat) : Int))] [(1, .box 28 (avs (Firmware.cells f))), (2, .row false 54 6 (a1_0.map Update.cells))] 4 (fun _ => ?_)
       exact ⟨rfl, rfl⟩
      refine AWp.cut (fuel := 6) (m := [true, true, false, true, true, true, true, true, false, false, false, false, false]) (s := Z 54 [(2, .rv (.sl 2 (v.map Pair.cells))), (4, .ptr 1 0), (10, .sl 2), (25, .rv (.sl 7 (h.devices.map Dev.cells))), (26, vi ((h.devices.length : Nat) : Int)), (27, vi ((k1_ : Nat) : Int)), (40, .sl 2), (41, .ptr 3 0), (43, vi (versionM v e1_.id)), (44, vi (versionM v e1_.id)), (47, vi ((f.sums.length : Nat) : Int))] [(1, .box 28 (avs (Firmware.cells f))), (2, .row false 54 6 (a1_0.map Update.cells)), (3, .box 49 (avs (Dev.cells e1_)))] 4) (AD.step 2 [8] (ADs.cons _ rfl (AOps.he [.run 1] _ _ _ _ ⟨rfl, rfl⟩) hd11 (ADs.cons _ rfl (AOps.he [.mk boolC false f.sums.length f.sums.length 4 1 1 (mkSz (by first | omega | (simp; omega)))] _ _ _ _ ⟨rfl, rfl⟩) hd12 (ADs.nil)))) (fun hd14 => ?_)
      refine AWp.cut (fuel := 7) (m := [true, true, true, true, true, true, false, false, false, false, false, false, false]) (s := Z 54 [(2, .rv (.sl 2 (v.map Pair.cells))), (4, .ptr 1 0), (10, .sl 2), (25, .rv (.sl 7 (h.devices.map Dev.cells))), (26, vi ((h.devices.length : Nat) : Int)), (27, vi ((k1_ : Nat) : Int)), (40, .sl 2), (42, vi e1_.id), (43, vi (versionM v e1_.id)), (44, vi (versionM v e1_.id)), (45, .ptr 1 2)] [(1, .box 28 (avs (Firmware.cells f))), (2, .row false 54 6 (a1_0.map Update.cells))] 4) (AD.step 6 [] (ADs.cons _ rfl (AOps.he [.run 1] _ _ _ _ ⟨rfl, rfl⟩) hd13 (ADs.nil))) (fun hd15 => ?_)
      refine AWp.cut (fuel := 7) (m := [true, true, false, true, true, true, true, false, false, false, false, false, false]) (s := Z 54 [(2, .rv (.sl 2 (v.map Pair.cells))), (4, .ptr 1 0), (10, .sl 2), (25, .rv (.sl 7 (h.devices.map Dev.cells))), (26, vi ((h.devices.length : Nat) : Int)), (27, vi ((k1_ : Nat) : Int)), (40, .sl 2), (41, .ptr 3 0), (43, vi (versionM v e1_.id)), (44, vi (versionM v e1_.id)), (46, .rv (.sl 1 (f.sums.map intC)))] [(1, .box 28 (avs (Firmware.cells f))), (2, .row false 54 6 (a1_0.map Update.cells)), (3, .box 49 (avs (Dev.cells e1_)))] 4) (AD.step 2 [7] (ADs.cons _ rfl (AOps.he [.run 1] _ _ _ _ ⟨rfl, rfl⟩) hd13 (ADs.cons _ rfl ?_ hd14 (ADs.nil)))) (fun hd16 => ?_)
      ·
       refine AOps.hel [.len intC f.sums 1] 54 [(2, .rv (.sl 2 (v.map Pair.cells))), (4, .ptr 1 0), (10, .sl 2), (25, .rv (.sl 7 (h.devices.map Dev.cells))), (26, vi ((h.devices.length : Nat) : Int)), (27, vi ((k1_ : Nat) : Int)), (40, .sl 2), (41, .ptr 3 0), (43, vi (versionM v e1_.id)), (44, vi (versionM v e1_.id)), (47, vi ((f.sums.length : Nat) : Int))] [(1, .box 28 (avs (Firmware.cells f))), (2, .row false 54 6 (a1_0.map Update.cells)), (3, .box 49 (avs (Dev.cells e1_)))] 4 (fun _ => ?_)
       exact ⟨rfl, rfl⟩
      refine AWp.cut (fuel := 8) (m := [true, true, false, true, true, true, false, false, false, false, false, false, false]) (s := Z 54 [(2, .rv (.sl 2 (v.map Pair.cells))), (4, .ptr 1 0), (10, .sl 2), (25, .rv (.sl 7 (h.devices.map Dev.cells))), (26, vi ((h.devices.length : Nat) : Int)), (27, vi ((k1_ : Nat) : Int)), (40, .sl 2), (41, .ptr 3 0), (43, vi (versionM v e1_.id)), (44, vi (versionM v e1_.id)), (45, .ptr 1 2)] [(1, .box 28 (avs (Firmware.cells f))), (2, .row false 54 6 (a1_0.map Update.cells)), (3, .box 49 (avs (Dev.cells e1_)))] 4) (AD.step 2 [6] (ADs.cons _ rfl (AOps.he [.run 1] _ _ _ _ ⟨rfl, rfl⟩) hd15 (ADs.cons _ rfl (AOps.he [.run 1] _ _ _ _ ⟨rfl, rfl⟩) hd16 (ADs.nil)))) (fun hd17 => ?_)
      refine AWp.cut (fuel := 9) (m := [true, true, false, true, true, false, false, false, false, false, false, false, false]) (s := Z 54 [(2, .rv (.sl 2 (v.map Pair.cells))), (4, .ptr 1 0), (10, .sl 2), (25, .rv (.sl 7 (h.devices.map Dev.cells))), (26, vi ((h.devices.length : Nat) : Int)), (27, vi ((k1_ : Nat) : Int)), (40, .sl 2), (41, .ptr 3 0), (43, vi (versionM v e1_.id)), (44, vi (versionM v e1_.id))] [(1, .box 28 (avs (Firmware.cells f))), (2, .row false 54 6 (a1_0.map Update.cells)), (3, .box 49 (avs (Dev.cells e1_)))] 4) (AD.tk 5 _ _ _ _ hd17) (fun hd18 => ?_)
      refine AWp.cut (fuel := 10) (m := [true, true, false, true, false, false, false, false, false, false, false, false, false]) (s := Z 54 [(2, .rv (.sl 2 (v.map Pair.cells))), (4, .ptr 1 0), (10, .sl 2), (13, vi (versionM v e1_.id)), (25, .rv (.sl 7 (h.devices.map Dev.cells))), (26, vi ((h.devices.length : Nat) : Int)), (27, vi ((k1_ : Nat) : Int)), (40, .sl 2), (41, .ptr 3 0), (43, vi (versionM v e1_.id))] [(1, .box 28 (avs (Firmware.cells f))), (2, .row false 54 6 (a1_0.map Update.cells)), (3, .box 49 (avs (Dev.cells e1_)))] 4) (AD.tk 4 _ _ _ _ hd18) (fun hd19 => ?_)
      refine AWp.cut (fuel := 11) (m := [true, true, false, false, false, false, false, false, false, false, false, false, false]) (s := Z 54 [(2, .rv (.sl 2 (v.map Pair.cells))), (4, .ptr 1 0), (10, .sl 2), (13, vi (versionM v e1_.id)), (25, .rv (.sl 7 (h.devices.map Dev.cells))), (26, vi ((h.devices.length : Nat) : Int)), (27, vi ((k1_ : Nat) : Int)), (40, .sl 2), (41, .ptr 3 0)] [(1, .box 28 (avs (Firmware.cells f))), (2, .row false 54 6 (a1_0.map Update.cells)), (3, .box 49 (avs (Dev.cells e1_)))] 4) (AD.tk 3 _ _ _ _ hd19) (fun hd20 => ?_)
      refine AWp.cut (fuel := 12) (m := [true, false, false, false, false, false, false, false, false, false, false, false, false]) (s := Z 54 [(2, .rv (.sl 2 (v.map Pair.cells))), (4, .ptr 1 0), (10, .sl 2), (12, .ptr 3 0), (13, vi (versionM v e1_.id)), (25, .rv (.sl 7 (h.devices.map Dev.cells))), (26, vi ((h.devices.length : Nat) : Int)), (27, vi ((k1_ : Nat) : Int)), (40, .sl 2)] [(1, .box 28 (avs (Firmware.cells f))), (2, .row false 54 6 (a1_0.map Update.cells)), (3, .box 49 (avs (Dev.cells e1_)))] 4) (AD.tk 1 _ _ _ _ hd20) (fun hd21 => ?_)
      refine AWp.cut (fuel := 13) (m := [false, false, false, false, false, false, false, false, false, false, false, false, false]) (s := Z 54 [(2, .rv (.sl 2 (v.map Pair.cells))), (4, .ptr 1 0), (10, .sl 2), (12, .ptr 3 0), (13, vi (versionM v e1_.id)), (25, .rv (.sl 7 (h.devices.map Dev.cells))), (26, vi ((h.devices.length : Nat) : Int)), (27, vi ((k1_ : Nat) : Int))] [(1, .box 28 (avs (Firmware.cells f))), (2, .row false 54 6 (a1_0.map Update.cells)), (3, .box 49 (avs (Dev.cells e1_)))] 4) (AD.tk 0 _ _ _ _ hd21) (fun hd22 => ?_)
      exact AWp.drawnA 13 leZ hd22
     ·
      refine AWp.skip ?_
      refine AWp.he [.cast (vi (IntKind.i64.wrap (((k1_ : Nat) : Int) + 1))) (vi ((k1_ + 1 : Nat) : Int)) (congrArg vi (wrap_nat (by omega))), .run 1] 54 [(2, .rv (.sl 2 (v.map Pair.cells))), (4, .ptr 1 0), (10, .sl 2), (25, .rv (.sl 7 (h.devices.map Dev.cells))), (26, vi ((h.devices.length : Nat) : Int)), (27, vi ((k1_ + 1 : Nat) : Int))] [(2, .row false 54 6 (a1_0.map Update.cells)), (1, .box 28 (avs (Firmware.cells f)))] 4 ?_
      exact ⟨(k1_ + 1, (a1_0)), ⟨by show k1_ + 1 ≤ _; omega, iterN_next hs1_ (by omega) (by unfold newM_B1; (try dsimp only); (try simp only [he1_]); (try rw [h4]); (try rw [h5]); first | done | kernel_rfl), by first | assumption | (simp only [List.length_set, List.length_append, List.length_cons, List.length_nil]; first | done | assumption | omega) | omega⟩, by show _ - (k1_ + 1) < _ - k1_; omega, leG⟩
    ·
     have h4' := of_decide_eq_false h4
     refine AWp.exit ?_
     have hq1_ : (a1_0) = (newM_L1 h f v ([])) := iterN_end hs1_ (by omega)
     exact ⟨(a1_0), ⟨hq1_, by first | assumption | (simp only [List.length_set, List.length_append, List.length_cons, List.length_nil]; first | done | assumption | omega) | omega⟩, leG⟩
   ·
    rintro _ ⟨rfl, hl1_0⟩
    try dsimp only at hl1_0
    refine AWp.hz [.run 3] 54 [(6, .sl 2), (7, vi 0)] [(2, .row false 54 6 ((newM_L1 h f v ([])).map Update.cells))] 3 ?_
    refine AWp.le (Le.frz _ 2) ?_
    refine AWp.cv 54 [(6, .rv (.sl 6 ((newM_L1 h f v ([])).map Update.cells))), (7, vi 0)] [] 3 ?_
    refine AWp.ret ?_
    exact leafR (r := .tuple [.rv (.sl 6 ((newM_L1 h f v ([])).map Update.cells)), vi 0]) (by show (.tuple [.rv (.sl 6 ((newM_L1 h f v ([])).map Update.cells)), vi 0] : AV) = .tuple [.rv (.sl 6 (((newM h f v).1).map Update.cells)), vi ((newM h f v).2)]; unfold newM; (try rw [h1]); (try rw [h2]); first | done | kernel_rfl)
def homeM_B1 (h : Home) (k1_ : Nat) : Option Bool :=
  (match (h.clusters)[k1_]? with | some e1_ => (bif ((decide (((e1_.attrs.length : Nat) : Int) > 20) || decide (((e1_.commands.length : Nat) : Int) > 20)) || decide (((e1_.events.length : Nat) : Int) > 20)) then some false else none) | none => none)
def homeM_L1 (h : Home) : Option Bool := scanN (homeM_B1 h) 0 h.clusters.length
def homeM_B2 (h : Home) (k2_ : Nat) : Option Bool :=
  (match (h.devices)[k2_]? with | some e2_ => (bif decide (((e2_.clusters.length : Nat) : Int) > 20) then some false else none) | none => none)
def homeM_L2 (h : Home) : Option Bool := scanN (homeM_B2 h) 0 h.devices.length
def homeM (h : Home) : Bool :=
  (bif (decide (((h.clusters.length : Nat) : Int) > 12) || decide (((h.devices.length : Nat) : Int) > 20)) then false else (homeM_L1 h).getD ((homeM_L2 h).getD true))
theorem homeM_ok (h : Home) :
 ACalls Try.prog G_ 8 [.agg (avs (Home.cells h))] [] 0 (fun r τ => r = vb (homeM h) ∧ τ = []) := by
 refine ACalls.body Try.func8 rfl 53 [(0, .agg (avs (Home.cells h)))] ?_
 refine AWp.hz [.run 2] 53 [(1, .ptr 0 0)] [(0, .box 25 (avs (Home.cells h)))] 1 ?_
 refine AWp.seq ?_
 refine AWp.join (Z 53 [(1, .ptr 0 0), (16, vb (decide (((h.clusters.length : Nat) : Int) > 12) || decide (((h.devices.length : Nat) : Int) > 20)))] [(0, .box 25 (avs (Home.cells h)))] 1) ?_ ?_
 ·
  refine AWp.region ?_
  refine AOps.hzl [.run 2, .len Cluster.cells h.clusters 4, .run 2] 53 [(1, .ptr 0 0), (11, vb (decide (((h.clusters.length : Nat) : Int) > 12)))] [(0, .box 25 (avs (Home.cells h)))] 1 (fun hl => ?_)
  obtain ⟨hn1, -⟩ := hl
  refine AOps.hg [] (decide (((h.clusters.length : Nat) : Int) > 12)) 53 (fun b_ => [(1, .ptr 0 0), (11, vb b_)]) [(0, .box 25 (avs (Home.cells h)))] 1 (fun hg2 => ?_) (fun hg2 => ?_)
  ·
   have hg2' := of_decide_eq_true hg2
   refine AOps.he [.run 5] 53 [(1, .ptr 0 0), (16, vb true)] [(0, .box 25 (avs (Home.cells h)))] 1 ?_
   exact leZ (by rw [hg2]; first | done | kernel_rfl)
  ·
   have hg2' := of_decide_eq_false hg2
   refine AOps.hel [.run 2, .len Dev.cells h.devices 7, .run 2] 53 [(1, .ptr 0 0), (16, vb (decide (((h.devices.length : Nat) : Int) > 20)))] [(0, .box 25 (avs (Home.cells h)))] 1 (fun hl => ?_)
   obtain ⟨hn3, -⟩ := hl
   exact leZ (by rw [hg2]; first | done | kernel_rfl)
 ·
  refine AWp.cnd ((decide (((h.clusters.length : Nat) : Int) > 12) || decide (((h.devices.length : Nat) : Int) > 20))) (fun h4 => ?_) (fun h4 => ?_)
  ·
   refine AWp.hz [.run 1] 53 [(2, vb false)] [] 1 ?_
   refine AWp.ret ?_
   exact leafR (r := vb false) (by unfold homeM; (try rw [h4]); first | done | kernel_rfl)
  ·
   have h4l := or_fl h4
   have h4l' := of_decide_eq_false h4l
   have h4r := or_fr h4
   have h4r' := of_decide_eq_false h4r
   refine AWp.skip ?_
   refine AWp.seq ?_
   refine AWp.hzl [.run 2, .len Cluster.cells h.clusters 4, .run 1] 53 [(1, .ptr 0 0), (18, .rv (.sl 4 (h.clusters.map Cluster.cells))), (19, vi ((h.clusters.length : Nat) : Int)), (20, vi 0)] [(0, .box 25 (avs (Home.cells h)))] 1 (fun hl => ?_)
   obtain ⟨hn5, -⟩ := hl
   refine AWp.block ?_
   refine AWp.loop (ι := Nat) (fun k1_ => Z 53 [(1, .ptr 0 0), (18, .rv (.sl 4 (h.clusters.map Cluster.cells))), (19, vi ((h.clusters.length : Nat) : Int)), (20, vi ((k1_ : Nat) : Int))] [(0, .box 25 (avs (Home.cells h)))] 1) (fun k1_ => k1_ ≤ h.clusters.length ∧ homeM_L1 h = scanN (homeM_B1 h) k1_ (h.clusters.length - k1_)) (fun k1_ => h.clusters.length - k1_) 0 leZ ⟨Nat.zero_le _, rfl⟩ ?_
   intro k1_ ⟨hk1_, hs1_⟩
   refine AWp.hz [.run 1] 53 [(1, .ptr 0 0), (18, .rv (.sl 4 (h.clusters.map Cluster.cells))), (19, vi ((h.clusters.length : Nat) : Int)), (20, vi ((k1_ : Nat) : Int)), (21, vb (decide (((k1_ : Nat) : Int) < ((h.clusters.length : Nat) : Int))))] [(0, .box 25 (avs (Home.cells h)))] 1 ?_
   refine AWp.seq ?_
   refine AWp.cnd (decide (((k1_ : Nat) : Int) < ((h.clusters.length : Nat) : Int))) (fun h6 => ?_) (fun h6 => ?_)
   ·
    have h6' := of_decide_eq_true h6
    refine AWp.skip ?_
    refine AWp.seq ?_
    refine AWp.block ?_
    obtain ⟨e1_, he1_⟩ := getEx (l := h.clusters) (j := k1_) (by omega)
    refine AWp.hz [.idx Cluster.cells h.clusters 4 k1_ e1_ he1_, .run 3] 53 [(1, .ptr 0 0), (4, .ptr 1 0), (18, .rv (.sl 4 (h.clusters.map Cluster.cells))), (19, vi ((h.clusters.length : Nat) : Int)), (20, vi ((k1_ : Nat) : Int))] [(1, .box 66 (avs (Cluster.cells e1_))), (0, .box 25 (avs (Home.cells h)))] 2 ?_
    refine AWp.join (Z 53 [(1, .ptr 0 0), (18, .rv (.sl 4 (h.clusters.map Cluster.cells))), (19, vi ((h.clusters.length : Nat) : Int)), (20, vi ((k1_ : Nat) : Int)), (39, vb ((decide (((e1_.attrs.length : Nat) : Int) > 20) || decide (((e1_.commands.length : Nat) : Int) > 20)) || decide (((e1_.events.length : Nat) : Int) > 20)))] [(0, .box 25 (avs (Home.cells h)))] 2) ?_ ?_
    ·
     refine AWp.region ?_
     refine AOps.hzl [.run 2, .len Attr.cells e1_.attrs 7, .run 2] 53 [(1, .ptr 0 0), (4, .ptr 1 0), (18, .rv (.sl 4 (h.clusters.map Cluster.cells))), (19, vi ((h.clusters.length : Nat) : Int)), (20, vi ((k1_ : Nat) : Int)), (28, vb (decide (((e1_.attrs.length : Nat) : Int) > 20)))] [(1, .box 66 (avs (Cluster.cells e1_))), (0, .box 25 (avs (Home.cells h)))] 2 (fun hl => ?_)
     obtain ⟨hn7, -⟩ := hl
     refine AOps.hg [] (decide (((e1_.attrs.length : Nat) : Int) > 20)) 53 (fun b_ => [(1, .ptr 0 0), (4, .ptr 1 0), (18, .rv (.sl 4 (h.clusters.map Cluster.cells))), (19, vi ((h.clusters.length : Nat) : Int)), (20, vi ((k1_ : Nat) : Int)), (28, vb b_)]) [(1, .box 66 (avs (Cluster.cells e1_))), (0, .box 25 (avs (Home.cells h)))] 2 (fun hg8 => ?_) (fun hg8 => ?_)
     ·
      have hg8' := of_decide_eq_true hg8
      refine AOps.he [.run 11] 53 [(1, .ptr 0 0), (18, .rv (.sl 4 (h.clusters.map Cluster.cells))), (19, vi ((h.clusters.length : Nat) : Int)), (20, vi ((k1_ : Nat) : Int)), (39, vb true)] [(0, .box 25 (avs (Home.cells h)))] 2 ?_
      exact leZ (by rw [hg8]; first | done | kernel_rfl)
     ·
      have hg8' := of_decide_eq_false hg8
      refine AOps.hzl [.run 2, .len Command.cells e1_.commands 9, .run 3] 53 [(1, .ptr 0 0), (4, .ptr 1 0), (18, .rv (.sl 4 (h.clusters.map Cluster.cells))), (19, vi ((h.clusters.length : Nat) : Int)), (20, vi ((k1_ : Nat) : Int)), (34, vb (decide (((e1_.commands.length : Nat) : Int) > 20)))] [(1, .box 66 (avs (Cluster.cells e1_))), (0, .box 25 (avs (Home.cells h)))] 2 (fun hl => ?_)
      obtain ⟨hn9, -⟩ := hl
      refine AOps.hg [] (decide (((e1_.commands.length : Nat) : Int) > 20)) 53 (fun b_ => [(1, .ptr 0 0), (4, .ptr 1 0), (18, .rv (.sl 4 (h.clusters.map Cluster.cells))), (19, vi ((h.clusters.length : Nat) : Int)), (20, vi ((k1_ : Nat) : Int)), (34, vb b_)]) [(1, .box 66 (avs (Cluster.cells e1_))), (0, .box 25 (avs (Home.cells h)))] 2 (fun hg10 => ?_) (fun hg10 => ?_)
      ·
       have hg10' := of_decide_eq_true hg10
       refine AOps.he [.run 5] 53 [(1, .ptr 0 0), (18, .rv (.sl 4 (h.clusters.map Cluster.cells))), (19, vi ((h.clusters.length : Nat) : Int)), (20, vi ((k1_ : Nat) : Int)), (39, vb true)] [(0, .box 25 (avs (Home.cells h)))] 2 ?_
       exact leZ (by rw [hg8, hg10]; first | done | kernel_rfl)
      ·
       have hg10' := of_decide_eq_false hg10
       refine AOps.hel [.run 2, .len strC e1_.events 1, .run 2] 53 [(1, .ptr 0 0), (18, .rv (.sl 4 (h.clusters.map Cluster.cells))), (19, vi ((h.clusters.length : Nat) : Int)), (20, vi ((k1_ : Nat) : Int)), (39, vb (decide (((e1_.events.length : Nat) : Int) > 20)))] [(0, .box 25 (avs (Home.cells h)))] 2 (fun hl => ?_)
       obtain ⟨hn11, -⟩ := hl
       exact leZ (by rw [hg8, hg10]; first | done | kernel_rfl)
    ·
     refine AWp.cnd (((decide (((e1_.attrs.length : Nat) : Int) > 20) || decide (((e1_.commands.length : Nat) : Int) > 20)) || decide (((e1_.events.length : Nat) : Int) > 20))) (fun h12 => ?_) (fun h12 => ?_)
     ·
      refine AWp.hz [.run 1] 53 [(2, vb false)] [] 2 ?_
      refine AWp.ret ?_
      have hL1_ : homeM_L1 h = some false := scanN_some hs1_ (by omega) (by unfold homeM_B1; (try simp only [he1_]); (try rw [h6]); (try rw [h12]); first | done | kernel_rfl)
      exact leafR (r := vb false) (by unfold homeM; (try rw [h4]); (try rw [hL1_]); first | done | kernel_rfl)
     ·
      have h12l := or_fl h12
      have h12ll := or_fl h12l
      have h12ll' := of_decide_eq_false h12ll
      have h12lr := or_fr h12l
      have h12lr' := of_decide_eq_false h12lr
      have h12r := or_fr h12
      have h12r' := of_decide_eq_false h12r
      refine AWp.skip ?_
      refine AWp.he [.cast (vi (IntKind.i64.wrap (((k1_ : Nat) : Int) + 1))) (vi ((k1_ + 1 : Nat) : Int)) (congrArg vi (wrap_nat (by omega))), .run 1] 53 [(1, .ptr 0 0), (18, .rv (.sl 4 (h.clusters.map Cluster.cells))), (19, vi ((h.clusters.length : Nat) : Int)), (20, vi ((k1_ + 1 : Nat) : Int))] [(0, .box 25 (avs (Home.cells h)))] 2 ?_
      exact ⟨k1_ + 1, ⟨by omega, scanN_none hs1_ (by omega) (by unfold homeM_B1; (try simp only [he1_]); (try rw [h6]); (try rw [h12]); first | done | kernel_rfl)⟩, by omega, leG⟩
   ·
    have h6' := of_decide_eq_false h6
    refine AWp.exit ?_
    have hL1_ : homeM_L1 h = none := scanN_end hs1_ (by omega)
    refine AWp.seq ?_
    refine AWp.hzl [.run 2, .len Dev.cells h.devices 7, .run 1] 53 [(42, .rv (.sl 7 (h.devices.map Dev.cells))), (43, vi ((h.devices.length : Nat) : Int)), (44, vi 0)] [] 1 (fun hl => ?_)
    obtain ⟨hn13, -⟩ := hl
    refine AWp.block ?_
    refine AWp.loop (ι := Nat) (fun k2_ => Z 53 [(42, .rv (.sl 7 (h.devices.map Dev.cells))), (43, vi ((h.devices.length : Nat) : Int)), (44, vi ((k2_ : Nat) : Int))] [] 1) (fun k2_ => k2_ ≤ h.devices.length ∧ homeM_L2 h = scanN (homeM_B2 h) k2_ (h.devices.length - k2_)) (fun k2_ => h.devices.length - k2_) 0 leZ ⟨Nat.zero_le _, rfl⟩ ?_
    intro k2_ ⟨hk2_, hs2_⟩
    refine AWp.hz [.run 1] 53 [(42, .rv (.sl 7 (h.devices.map Dev.cells))), (43, vi ((h.devices.length : Nat) : Int)), (44, vi ((k2_ : Nat) : Int)), (45, vb (decide (((k2_ : Nat) : Int) < ((h.devices.length : Nat) : Int))))] [] 1 ?_
    refine AWp.seq ?_
    refine AWp.cnd (decide (((k2_ : Nat) : Int) < ((h.devices.length : Nat) : Int))) (fun h14 => ?_) (fun h14 => ?_)
    ·
     have h14' := of_decide_eq_true h14
     refine AWp.skip ?_
     refine AWp.seq ?_
     refine AWp.block ?_
     obtain ⟨e2_, he2_⟩ := getEx (l := h.devices) (j := k2_) (by omega)
     refine AWp.hz [.idx Dev.cells h.devices 7 k2_ e2_ he2_, .run 3] 53 [(6, .ptr 1 0), (42, .rv (.sl 7 (h.devices.map Dev.cells))), (43, vi ((h.devices.length : Nat) : Int)), (44, vi ((k2_ : Nat) : Int))] [(1, .box 49 (avs (Dev.cells e2_)))] 2 ?_
     refine AWp.hzl [.run 2, .len strC e2_.clusters 1, .run 1] 53 [(42, .rv (.sl 7 (h.devices.map Dev.cells))), (43, vi ((h.devices.length : Nat) : Int)), (44, vi ((k2_ : Nat) : Int)), (51, vb (decide (((e2_.clusters.length : Nat) : Int) > 20)))] [] 2 (fun hl => ?_)
     obtain ⟨hn15, -⟩ := hl
     refine AWp.cnd (decide (((e2_.clusters.length : Nat) : Int) > 20)) (fun h16 => ?_) (fun h16 => ?_)
     ·
      have h16' := of_decide_eq_true h16
      refine AWp.hz [.run 1] 53 [(2, vb false)] [] 2 ?_
      refine AWp.ret ?_
      have hL2_ : homeM_L2 h = some false := scanN_some hs2_ (by omega) (by unfold homeM_B2; (try simp only [he2_]); (try rw [h14]); (try rw [h16]); first | done | kernel_rfl)
      exact leafR (r := vb false) (by unfold homeM; (try rw [h4]); (try rw [hL1_]); (try rw [hL2_]); first | done | kernel_rfl)
     ·
      have h16' := of_decide_eq_false h16
      refine AWp.skip ?_
      refine AWp.he [.cast (vi (IntKind.i64.wrap (((k2_ : Nat) : Int) + 1))) (vi ((k2_ + 1 : Nat) : Int)) (congrArg vi (wrap_nat (by omega))), .run 1] 53 [(42, .rv (.sl 7 (h.devices.map Dev.cells))), (43, vi ((h.devices.length : Nat) : Int)), (44, vi ((k2_ + 1 : Nat) : Int))] [] 2 ?_
      exact ⟨k2_ + 1, ⟨by omega, scanN_none hs2_ (by omega) (by unfold homeM_B2; (try simp only [he2_]); (try rw [h14]); (try rw [h16]); first | done | kernel_rfl)⟩, by omega, leG⟩
    ·
     have h14' := of_decide_eq_false h14
     refine AWp.exit ?_
     have hL2_ : homeM_L2 h = none := scanN_end hs2_ (by omega)
     refine AWp.hz [.run 1] 53 [(2, vb true)] [] 1 ?_
     refine AWp.ret ?_
     exact leafR (r := vb true) (by unfold homeM; (try rw [h4]); (try rw [hL1_]); (try rw [hL2_]); first | done | kernel_rfl)
end Go.Proofs.Ytjgpnceaicijcaa
