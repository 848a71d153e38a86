/- RolloutEnds: what it computes. -/
import Derived.Test.YtjgpnceaicijcaaWB8
import Derived.Test.YtjgpnceaicijcaaWQe
namespace Go.Proofs.Ytjgpnceaicijcaa
open Go Go.Av Go.Hh Go.Proofs
set_option maxRecDepth 100000
set_option maxHeartbeats 4000000
def lEndsM_B1 (h : Home) (f : Firmware) (v : List Pair) (now : Int) (k1_ : Nat) (x_ : (List Bool)) : (List Bool) :=
  match x_ with
  | (a1_0) => ((a1_0.set k1_ true))
def lEndsM_L1 (h : Home) (f : Firmware) (v : List Pair) (now : Int) (x_ : (List Bool)) : (List Bool) := iterN (lEndsM_B1 h f v now) 0 ((List.replicate f.sums.length false).length) x_
def lEndsM_B3 (h : Home) (f : Firmware) (v : List Pair) (now : Int) (a2_0 : Int) (k3_ : Nat) (x_ : (List Update)) : (List Update) :=
  match x_ with
  | (a3_0) => (match (h.devices)[k3_]? with | some e3_ => (confirmM (installM (haveM a3_0 f e3_.id (lEndsM_L1 h f v now ((List.replicate f.sums.length false)))) f e3_.id (IntKind.i64.wrap (a2_0 + 1))) e3_.id true (IntKind.i64.wrap (a2_0 + 601))) | none => x_)
def lEndsM_L3 (h : Home) (f : Firmware) (v : List Pair) (now : Int) (a2_0 : Int) (x_ : (List Update)) : (List Update) := iterN (lEndsM_B3 h f v now a2_0) 0 h.devices.length x_
def lEndsM_B2 (h : Home) (f : Firmware) (v : List Pair) (now : Int) (x_ : Int × (List Update) × Int) : Step Unit (Int × (List Update) × Int) :=
  match x_ with
  | (a2_0, a2_1, a2_2) => (bif decide (a2_2 ≤ ofM (IntKind.i64.wrap (((a2_1.length : Nat) : Int) - 1))) then .nxt (IntKind.i64.wrap (a2_0 + 700), (lEndsM_L3 h f v now a2_0 (startM a2_1 f a2_0)), IntKind.i64.wrap (a2_2 + 1)) else .brk (a2_0, a2_1, a2_2))
def lEndsM_L2 (h : Home) (f : Firmware) (v : List Pair) (now : Int) (x_ : Int × (List Update) × Int) : Int × (List Update) × Int := loopV (lEndsM_B2 h f v now) 100 x_
def lEndsM_B4 (h : Home) (f : Firmware) (v : List Pair) (now : Int) (k4_ : Nat) : Option Bool :=
  (match ((lEndsM_L2 h f v now (now, (newM h f v).1, 0)).2.1)[k4_]? with | some e4_ => (bif (e4_.version != f.version) then some false else none) | none => none)
def lEndsM_L4 (h : Home) (f : Firmware) (v : List Pair) (now : Int) : Option Bool := scanN (lEndsM_B4 h f v now) 0 (((lEndsM_L2 h f v now (now, (newM h f v).1, 0)).2.1).length)
def lEndsM (h : Home) (f : Firmware) (v : List Pair) (now : Int) : Bool :=
  ((((!(homeM h) || (decide (((f.sums.length : Nat) : Int) > 80) || (decide (((v.length : Nat) : Int) > 40) || decide (now < 0)))) || decide (now > 1073741824)) || ((((newM h f v).2) != 0) || (((((newM h f v).1).length : Nat) : Int) == 0))) || (bif (decide (((((newM h f v).1).length : Nat) : Int) > ((h.devices.length : Nat) : Int)) || (((waveOfM ((lEndsM_L2 h f v now (now, (newM h f v).1, 0)).2.1) f != -1) || stoppedM ((lEndsM_L2 h f v now (now, (newM h f v).1, 0)).2.1)) || ((((sendM ((lEndsM_L2 h f v now (now, (newM h f v).1, 0)).2.1) f).length : Nat) : Int) != 0))) then false else (lEndsM_L4 h f v now).getD true))
theorem lEndsM_L3_len (h : Home) (f : Firmware) (v : List Pair) (now t : Int) (l : List Update) : (lEndsM_L3 h f v now t l).length = l.length := by
  unfold lEndsM_L3
  refine iterN_inv (fun (a : List Update) => a.length = l.length) (fun k a ha => ?_) _ _ _ rfl
  unfold lEndsM_B3
  dsimp only
  split
  · rw [confirmM_len, installM_len, haveM_len]
    exact ha
  · exact ha
theorem lEndsM_L3_good {h : Home} {f : Firmware} {v : List Pair} {now t : Int} {l : List Update} (hs : f.sums.length ≤ 1000000) (hg : Good l) : Good (lEndsM_L3 h f v now t l) := by
  unfold lEndsM_L3
  refine iterN_inv Good (fun k a ha => ?_) _ _ _ hg
  unfold lEndsM_B3
  dsimp only
  split
  · exact confirmM_good (installM_good (haveM_good hs ha))
  · exact ha
theorem lEndsM_ends (h : Home) (f : Firmware) (v : List Pair) (now : Int) : ∀ (j : Nat) (t : Int) (l : List Update) (w : Int), l.length ≤ 1000000 → 0 ≤ w → w ≤ 1000 → 64 ≤ w + j → endsW (lEndsM_B2 h f v now) (j + 1) (t, l, w)
  | 0, t, l, w, hl, h0, h1, hj => by
    have e1 : IntKind.i64.wrap (((l.length : Nat) : Int) - 1) = (l.length : Int) - 1 := wrap64_of _ (by omega) (by omega)
    have hb := (of_bound ((l.length : Int) - 1) (by omega)).2
    have hd : decide (w ≤ ofM ((l.length : Int) - 1)) = false := decide_eq_false (by omega)
    simp only [endsW, lEndsM_B2, e1, hd, cond_false]
  | j + 1, t, l, w, hl, h0, h1, hj => by
    have e1 : IntKind.i64.wrap (((l.length : Nat) : Int) - 1) = (l.length : Int) - 1 := wrap64_of _ (by omega) (by omega)
    have hb := (of_bound ((l.length : Int) - 1) (by omega)).2
    have e2 : IntKind.i64.wrap (w + 1) = w + 1 := wrap64_of _ (by omega) (by omega)
    unfold endsW lEndsM_B2
    simp only [e1, e2]
    cases hd : decide (w ≤ ofM ((l.length : Int) - 1)) with
    | true =>
      have hd := of_decide_eq_true hd
      exact lEndsM_ends h f v now j _ _ _ (by rw [lEndsM_L3_len, startM_len]; exact hl) (by omega) (by omega) (by omega)
    | false => simp only [cond_false]
theorem lEndsM_ok (h : Home) (f : Firmware) (v : List Pair) (now : Int) :
 ACalls Try.prog G_ 5 [.agg (avs (Home.cells h)), .agg (avs (Firmware.cells f)), .rv (.sl 2 (v.map Pair.cells)), vi now] [] 0 (fun r τ => r = vb (lEndsM h f v now) ∧ τ = []) := by
 refine ACalls.body Try.func5 rfl 143 [(0, .agg (avs (Home.cells h))), (1, .agg (avs (Firmware.cells f))), (2, .rv (.sl 2 (v.map Pair.cells))), (3, vi now)] ?_
 refine AWp.hz [.run 3] 143 [(2, .rv (.sl 2 (v.map Pair.cells))), (3, vi now), (4, .ptr 0 0), (5, .ptr 1 0)] [(1, .box 28 (avs (Firmware.cells f))), (0, .box 25 (avs (Home.cells h)))] 2 ?_
 refine AWp.seq ?_
 refine AWp.join (Z 143 [(2, .rv (.sl 2 (v.map Pair.cells))), (3, vi now), (4, .ptr 0 0), (5, .ptr 1 0), (39, vb ((!(homeM h) || (decide (((f.sums.length : Nat) : Int) > 80) || (decide (((v.length : Nat) : Int) > 40) || decide (now < 0)))) || decide (now > 1073741824)))] [(1, .box 28 (avs (Firmware.cells f))), (0, .box 25 (avs (Home.cells h)))] 2) ?_ ?_
 ·
  refine AWp.region ?_
  refine AOps.hg [.run 1, .call 8 [.agg (avs (Home.cells h))] (vb (homeM h)) [] 0 (homeM_ok h), .run 2] (!(homeM h)) 143 (fun b_ => [(2, .rv (.sl 2 (v.map Pair.cells))), (3, vi now), (4, .ptr 0 0), (5, .ptr 1 0), (21, vb b_)]) [(1, .box 28 (avs (Firmware.cells f))), (0, .box 25 (avs (Home.cells h)))] 2 (fun hg1 => ?_) (fun hg1 => ?_)
  ·
   refine AOps.he [.run 18] 143 [(2, .rv (.sl 2 (v.map Pair.cells))), (3, vi now), (4, .ptr 0 0), (5, .ptr 1 0), (39, vb true)] [(1, .box 28 (avs (Firmware.cells f))), (0, .box 25 (avs (Home.cells h)))] 2 ?_
   exact leZ (by rw [hg1]; first | done | kernel_rfl)
  ·
   refine AOps.hzl [.run 2, .len intC f.sums 1, .run 3] 143 [(2, .rv (.sl 2 (v.map Pair.cells))), (3, vi now), (4, .ptr 0 0), (5, .ptr 1 0), (27, vb (decide (((f.sums.length : Nat) : Int) > 80)))] [(1, .box 28 (avs (Firmware.cells f))), (0, .box 25 (avs (Home.cells h)))] 2 (fun hl => ?_)
   obtain ⟨hn2, -⟩ := hl
   refine AOps.hg [] (decide (((f.sums.length : Nat) : Int) > 80)) 143 (fun b_ => [(2, .rv (.sl 2 (v.map Pair.cells))), (3, vi now), (4, .ptr 0 0), (5, .ptr 1 0), (27, vb b_)]) [(1, .box 28 (avs (Firmware.cells f))), (0, .box 25 (avs (Home.cells h)))] 2 (fun hg3 => ?_) (fun hg3 => ?_)
   ·
    have hg3' := of_decide_eq_true hg3
    refine AOps.he [.run 12] 143 [(2, .rv (.sl 2 (v.map Pair.cells))), (3, vi now), (4, .ptr 0 0), (5, .ptr 1 0), (39, vb true)] [(1, .box 28 (avs (Firmware.cells f))), (0, .box 25 (avs (Home.cells h)))] 2 ?_
    exact leZ (by rw [hg1, hg3]; first | done | kernel_rfl)
   ·
    have hg3' := of_decide_eq_false hg3
    refine AOps.hzl [.run 1, .len Pair.cells v 2, .run 3] 143 [(2, .rv (.sl 2 (v.map Pair.cells))), (3, vi now), (4, .ptr 0 0), (5, .ptr 1 0), (32, vb (decide (((v.length : Nat) : Int) > 40)))] [(1, .box 28 (avs (Firmware.cells f))), (0, .box 25 (avs (Home.cells h)))] 2 (fun hl => ?_)
    obtain ⟨hn4, -⟩ := hl
    refine AOps.hg [] (decide (((v.length : Nat) : Int) > 40)) 143 (fun b_ => [(2, .rv (.sl 2 (v.map Pair.cells))), (3, vi now), (4, .ptr 0 0), (5, .ptr 1 0), (32, vb b_)]) [(1, .box 28 (avs (Firmware.cells f))), (0, .box 25 (avs (Home.cells h)))] 2 (fun hg5 => ?_) (fun hg5 => ?_)
    ·
     have hg5' := of_decide_eq_true hg5
     refine AOps.he [.run 7] 143 [(2, .rv (.sl 2 (v.map Pair.cells))), (3, vi now), (4, .ptr 0 0), (5, .ptr 1 0), (39, vb true)] [(1, .box 28 (avs (Firmware.cells f))), (0, .box 25 (avs (Home.cells h)))] 2 ?_
     exact leZ (by rw [hg1, hg3, hg5]; first | done | kernel_rfl)
    ·
     have hg5' := of_decide_eq_false hg5
     refine AOps.hg [.run 4] (decide (now < 0)) 143 (fun b_ => [(2, .rv (.sl 2 (v.map Pair.cells))), (3, vi now), (4, .ptr 0 0), (5, .ptr 1 0), (36, vb b_)]) [(1, .box 28 (avs (Firmware.cells f))), (0, .box 25 (avs (Home.cells h)))] 2 (fun hg6 => ?_) (fun hg6 => ?_)
     ·
      have hg6' := of_decide_eq_true hg6
      refine AOps.he [.run 3] 143 [(2, .rv (.sl 2 (v.map Pair.cells))), (3, vi now), (4, .ptr 0 0), (5, .ptr 1 0), (39, vb true)] [(1, .box 28 (avs (Firmware.cells f))), (0, .box 25 (avs (Home.cells h)))] 2 ?_
      exact leZ (by rw [hg1, hg3, hg5, hg6]; first | done | kernel_rfl)
     ·
      have hg6' := of_decide_eq_false hg6
      refine AOps.he [.run 3] 143 [(2, .rv (.sl 2 (v.map Pair.cells))), (3, vi now), (4, .ptr 0 0), (5, .ptr 1 0), (39, vb (decide (now > 1073741824)))] [(1, .box 28 (avs (Firmware.cells f))), (0, .box 25 (avs (Home.cells h)))] 2 ?_
      exact leZ (by rw [hg1, hg3, hg5, hg6]; first | done | kernel_rfl)
 ·
  refine AWp.cnd (((!(homeM h) || (decide (((f.sums.length : Nat) : Int) > 80) || (decide (((v.length : Nat) : Int) > 40) || decide (now < 0)))) || decide (now > 1073741824))) (fun h7 => ?_) (fun h7 => ?_)
  ·
   refine AWp.hz [.call 9 [] (vb true) [] 0 (awake_ok), .run 1] 143 [(8, vb true)] [] 2 ?_
   refine AWp.ret ?_
   exact leafR (r := vb true) (by unfold lEndsM; (try rw [h7]); first | done | kernel_rfl)
  ·
   have h7l := or_fl h7
   have h7ll := or_fl h7l
   have h7lr := or_fr h7l
   have h7lrl := or_fl h7lr
   have h7lrl' := of_decide_eq_false h7lrl
   have h7lrr := or_fr h7lr
   have h7lrrl := or_fl h7lrr
   have h7lrrl' := of_decide_eq_false h7lrrl
   have h7lrrr := or_fr h7lrr
   have h7lrrr' := of_decide_eq_false h7lrrr
   have h7r := or_fr h7
   have h7r' := of_decide_eq_false h7r
   refine AWp.skip ?_
   refine AWp.hz [.run 3, .call 10 [.agg (avs (Home.cells h)), .agg (avs (Firmware.cells f)), .rv (.sl 2 (v.map Pair.cells))] (.tuple [.rv (.sl 6 (((newM h f v).1).map Update.cells)), vi ((newM h f v).2)]) [] 0 (newM_ok h f v (by first | (with_reducible first | assumption | exact home_dev (by assumption) | exact Good.len (by assumption) | exact Good.fit (by assumption) | exact Good.len hv2_.2 | exact Good.fit hv2_.2 | exact Good.len hv3_.2 | exact Good.fit hv3_.2 | exact Good.len hp2_ | exact Good.fit hp2_) | omega | (have := hv2_.2.len; have := wrap64_of (((a2_1.length : Nat) : Int) - 1) (by omega) (by omega); omega)) (by first | (with_reducible first | assumption | exact home_dev (by assumption) | exact Good.len (by assumption) | exact Good.fit (by assumption) | exact Good.len hv2_.2 | exact Good.fit hv2_.2 | exact Good.len hv3_.2 | exact Good.fit hv3_.2 | exact Good.len hp2_ | exact Good.fit hp2_) | omega | (have := hv2_.2.len; have := wrap64_of (((a2_1.length : Nat) : Int) - 1) (by omega) (by omega); omega))), .run 5] 143 [(3, vi now), (4, .ptr 0 0), (5, .ptr 1 0), (9, .rv (.sl 6 (((newM h f v).1).map Update.cells))), (10, vi ((newM h f v).2))] [(1, .box 28 (avs (Firmware.cells f))), (0, .box 25 (avs (Home.cells h)))] 2 ?_
   refine AWp.seq ?_
   refine AWp.join (Z 143 [(3, vi now), (4, .ptr 0 0), (5, .ptr 1 0), (9, .rv (.sl 6 (((newM h f v).1).map Update.cells))), (54, vb ((((newM h f v).2) != 0) || (((((newM h f v).1).length : Nat) : Int) == 0)))] [(1, .box 28 (avs (Firmware.cells f))), (0, .box 25 (avs (Home.cells h)))] 2) ?_ ?_
   ·
    refine AWp.region ?_
    refine AOps.hg [.run 3] ((((newM h f v).2) != 0)) 143 (fun b_ => [(3, vi now), (4, .ptr 0 0), (5, .ptr 1 0), (9, .rv (.sl 6 (((newM h f v).1).map Update.cells))), (50, vb b_)]) [(1, .box 28 (avs (Firmware.cells f))), (0, .box 25 (avs (Home.cells h)))] 2 (fun hg8 => ?_) (fun hg8 => ?_)
    ·
     refine AOps.he [.run 4] 143 [(3, vi now), (4, .ptr 0 0), (5, .ptr 1 0), (9, .rv (.sl 6 (((newM h f v).1).map Update.cells))), (54, vb true)] [(1, .box 28 (avs (Firmware.cells f))), (0, .box 25 (avs (Home.cells h)))] 2 ?_
     exact leZ (by rw [hg8]; first | done | kernel_rfl)
    ·
     refine AOps.hel [.run 1, .len Update.cells ((newM h f v).1) 6, .run 2] 143 [(3, vi now), (4, .ptr 0 0), (5, .ptr 1 0), (9, .rv (.sl 6 (((newM h f v).1).map Update.cells))), (54, vb (((((newM h f v).1).length : Nat) : Int) == 0))] [(1, .box 28 (avs (Firmware.cells f))), (0, .box 25 (avs (Home.cells h)))] 2 (fun hl => ?_)
     obtain ⟨hn9, -⟩ := hl
     exact leZ (by rw [hg8]; first | done | kernel_rfl)
   ·
    refine AWp.cnd (((((newM h f v).2) != 0) || (((((newM h f v).1).length : Nat) : Int) == 0))) (fun h10 => ?_) (fun h10 => ?_)
    ·
     refine AWp.hz [.call 9 [] (vb true) [] 0 (awake_ok), .run 1] 143 [(8, vb true)] [] 2 ?_
     refine AWp.ret ?_
     exact leafR (r := vb true) (by unfold lEndsM; (try rw [h7]); (try rw [h10]); first | done | kernel_rfl)
    ·
     have h10l := or_fl h10
     have h10r := or_fr h10
     have h10r' := beq_f h10r
     refine AWp.skip ?_
     refine AWp.seq ?_
     refine AWp.hzl [.run 1, .len Update.cells ((newM h f v).1) 6, .run 2, .len Dev.cells h.devices 7, .run 1] 143 [(3, vi now), (4, .ptr 0 0), (5, .ptr 1 0), (9, .rv (.sl 6 (((newM h f v).1).map Update.cells))), (61, vb (decide (((((newM h f v).1).length : Nat) : Int) > ((h.devices.length : Nat) : Int))))] [(1, .box 28 (avs (Firmware.cells f))), (0, .box 25 (avs (Home.cells h)))] 2 (fun hl => ?_)
     obtain ⟨hn11, hn12, -⟩ := hl
     refine AWp.cnd (decide (((((newM h f v).1).length : Nat) : Int) > ((h.devices.length : Nat) : Int))) (fun h13 => ?_) (fun h13 => ?_)
     ·
      have h13' := of_decide_eq_true h13
      refine AWp.hz [.run 1] 143 [(8, vb false)] [] 2 ?_
      refine AWp.ret ?_
      exact leafR (r := vb false) (by unfold lEndsM; (try rw [h7]); (try rw [h10]); (try rw [h13]); first | done | kernel_rfl)
     ·
      have h13' := of_decide_eq_false h13
      refine AWp.skip ?_
      refine AWp.rg ?_
      refine AOps.hzl [.run 2, .len intC f.sums 1] 143 [(3, vi now), (4, .ptr 0 0), (5, .ptr 1 0), (9, .rv (.sl 6 (((newM h f v).1).map Update.cells))), (64, vi ((f.sums.length : Nat) : Int))] [(1, .box 28 (avs (Firmware.cells f))), (0, .box 25 (avs (Home.cells h)))] 2 (fun hl => ?_)
      obtain ⟨hn14, -⟩ := hl
      refine AOps.he [.mk boolC false f.sums.length f.sums.length 4 1 1 (mkSz (by first | omega | (simp; omega))), .run 1] 143 [(3, vi now), (4, .ptr 0 0), (5, .ptr 1 0), (9, .rv (.sl 6 (((newM h f v).1).map Update.cells))), (11, .sl 2)] [(2, .row false 4 1 ((List.replicate f.sums.length false).map boolC)), (1, .box 28 (avs (Firmware.cells f))), (0, .box 25 (avs (Home.cells h)))] 3 ?_
      refine AWp.seq ?_
      refine AWp.hzl [.run 1, .lenR boolC (List.replicate f.sums.length false) 2 1, .run 1] 143 [(3, vi now), (4, .ptr 0 0), (5, .ptr 1 0), (9, .rv (.sl 6 (((newM h f v).1).map Update.cells))), (11, .sl 2), (67, vi (((List.replicate f.sums.length false).length : Nat) : Int)), (68, vi 0)] [(2, .row false 4 1 ((List.replicate f.sums.length false).map boolC)), (1, .box 28 (avs (Firmware.cells f))), (0, .box 25 (avs (Home.cells h)))] 3 (fun hl => ?_)
      obtain ⟨hn15, -⟩ := hl
      refine AWp.joinE1 (A := (List Bool)) (fun x_ => Z 143 [(3, vi now), (4, .ptr 0 0), (5, .ptr 1 0), (9, .rv (.sl 6 (((newM h f v).1).map Update.cells))), (11, .sl 2)] [(2, .row false 4 1 (x_.map boolC)), (1, .box 28 (avs (Firmware.cells f))), (0, .box 25 (avs (Home.cells h)))] 3) (fun x_ => x_ = (lEndsM_L1 h f v now ((List.replicate f.sums.length false))) ∧ x_.length = (List.replicate f.sums.length false).length) ?_ ?_
      ·
       refine AWp.block ?_
       refine AWp.loop (ι := Nat × ((List Bool))) (fun x_ => Z 143 [(3, vi now), (4, .ptr 0 0), (5, .ptr 1 0), (9, .rv (.sl 6 (((newM h f v).1).map Update.cells))), (11, .sl 2), (67, vi (((List.replicate f.sums.length false).length : Nat) : Int)), (68, vi ((x_.1 : Nat) : Int))] [(2, .row false 4 1 (x_.2.map boolC)), (1, .box 28 (avs (Firmware.cells f))), (0, .box 25 (avs (Home.cells h)))] 3) (fun x_ => x_.1 ≤ ((List.replicate f.sums.length false).length) ∧ (lEndsM_L1 h f v now ((List.replicate f.sums.length false))) = iterN (lEndsM_B1 h f v now) x_.1 (((List.replicate f.sums.length false).length) - x_.1) x_.2 ∧ x_.2.length = (List.replicate f.sums.length false).length) (fun x_ => ((List.replicate f.sums.length false).length) - x_.1) (0, ((List.replicate f.sums.length false))) leZ ⟨Nat.zero_le _, rfl, rfl⟩ ?_
       rintro ⟨k1_, a1_0⟩ ⟨hk1_, hs1_, hl1_0⟩
       try dsimp only at hk1_
       try dsimp only at hs1_
       try dsimp only at hl1_0
       refine AWp.cv 143 [(3, vi now), (4, .ptr 0 0), (5, .ptr 1 0), (9, .rv (.sl 6 (((newM h f v).1).map Update.cells))), (11, .sl 2), (67, vi (((List.replicate f.sums.length false).length : Nat) : Int)), (68, vi ((k1_ : Nat) : Int))] [(2, .row false 4 1 (a1_0.map boolC)), (1, .box 28 (avs (Firmware.cells f))), (0, .box 25 (avs (Home.cells h)))] 3 ?_
       refine AWp.hz [.run 1] 143 [(3, vi now), (4, .ptr 0 0), (5, .ptr 1 0), (9, .rv (.sl 6 (((newM h f v).1).map Update.cells))), (11, .sl 2), (67, vi (((List.replicate f.sums.length false).length : Nat) : Int)), (68, vi ((k1_ : Nat) : Int)), (69, vb (decide (((k1_ : Nat) : Int) < (((List.replicate f.sums.length false).length : Nat) : Int))))] [(2, .row false 4 1 (a1_0.map boolC)), (1, .box 28 (avs (Firmware.cells f))), (0, .box 25 (avs (Home.cells h)))] 3 ?_
       refine AWp.seq ?_
       refine AWp.cnd (decide (((k1_ : Nat) : Int) < (((List.replicate f.sums.length false).length : Nat) : Int))) (fun h16 => ?_) (fun h16 => ?_)
       ·
        have h16' := of_decide_eq_true h16
        refine AWp.skip ?_
        refine AWp.seq ?_
        refine AWp.block ?_
        refine AWp.hz [.run 2] 143 [(3, vi now), (4, .ptr 0 0), (5, .ptr 1 0), (9, .rv (.sl 6 (((newM h f v).1).map Update.cells))), (11, .sl 2), (12, vi ((k1_ : Nat) : Int)), (67, vi (((List.replicate f.sums.length false).length : Nat) : Int)), (68, vi ((k1_ : Nat) : Int))] [(2, .row false 4 1 (a1_0.map boolC)), (1, .box 28 (avs (Firmware.cells f))), (0, .box 25 (avs (Home.cells h)))] 3 ?_
        have hi17 : k1_ < a1_0.length := by first | omega | (simp only [List.length_set]; omega)
        obtain ⟨e2_, he2_⟩ := getEx (l := a1_0) (j := k1_) (by omega)
        refine AWp.he [.run 2, .idxR boolC a1_0 2 1 k1_ hi17, .stR boolC a1_0 2 1 k1_ 0 e2_ true he2_] 143 [(3, vi now), (4, .ptr 0 0), (5, .ptr 1 0), (9, .rv (.sl 6 (((newM h f v).1).map Update.cells))), (11, .sl 2), (67, vi (((List.replicate f.sums.length false).length : Nat) : Int)), (68, vi ((k1_ : Nat) : Int))] [(2, .row false 4 1 ((a1_0.set k1_ true).map boolC)), (1, .box 28 (avs (Firmware.cells f))), (0, .box 25 (avs (Home.cells h)))] 3 ?_
        refine AWp.he [.cast (vi (IntKind.i64.wrap (((k1_ : Nat) : Int) + 1))) (vi ((k1_ + 1 : Nat) : Int)) (congrArg vi (wrap_nat (by omega))), .run 1] 143 [(3, vi now), (4, .ptr 0 0), (5, .ptr 1 0), (9, .rv (.sl 6 (((newM h f v).1).map Update.cells))), (11, .sl 2), (67, vi (((List.replicate f.sums.length false).length : Nat) : Int)), (68, vi ((k1_ + 1 : Nat) : Int))] [(2, .row false 4 1 ((a1_0.set k1_ true).map boolC)), (1, .box 28 (avs (Firmware.cells f))), (0, .box 25 (avs (Home.cells h)))] 3 ?_
        exact ⟨(k1_ + 1, ((a1_0.set k1_ true))), ⟨by show k1_ + 1 ≤ _; omega, iterN_next hs1_ (by omega) (by unfold lEndsM_B1; (try dsimp only); (try simp only [he2_]); (try rw [h16]); first | done | kernel_rfl), by first | assumption | (simp only [List.length_set, List.length_append, List.length_cons, List.length_nil]; first | done | assumption | omega) | omega⟩, by show _ - (k1_ + 1) < _ - k1_; omega, leG⟩
       ·
        have h16' := of_decide_eq_false h16
        refine AWp.exit ?_
        have hq1_ : (a1_0) = (lEndsM_L1 h f v now ((List.replicate f.sums.length false))) := iterN_end hs1_ (by omega)
        exact ⟨(a1_0), ⟨hq1_, by first | assumption | (simp only [List.length_set, List.length_append, List.length_cons, List.length_nil]; first | done | assumption | omega) | omega⟩, leG⟩
      ·
       rintro _ ⟨rfl, hl1_0⟩
       try dsimp only at hl1_0
       refine AWp.seq ?_
       refine AWp.hz [.run 1] 143 [(3, vi now), (4, .ptr 0 0), (5, .ptr 1 0), (9, .rv (.sl 6 (((newM h f v).1).map Update.cells))), (11, .sl 2), (13, vi 0)] [(2, .row false 4 1 ((lEndsM_L1 h f v now ((List.replicate f.sums.length false))).map boolC)), (1, .box 28 (avs (Firmware.cells f))), (0, .box 25 (avs (Home.cells h)))] 3 ?_
       refine AWp.le (Le.frz _ 2) ?_
       refine AWp.cv 143 [(3, vi now), (4, .ptr 0 0), (5, .ptr 1 0), (9, .rv (.sl 6 (((newM h f v).1).map Update.cells))), (11, .rv (.sl 1 ((lEndsM_L1 h f v now ((List.replicate f.sums.length false))).map boolC))), (13, vi 0)] [(1, .box 28 (avs (Firmware.cells f))), (0, .box 25 (avs (Home.cells h)))] 3 ?_
       refine AWp.joinE1 (A := Int × (List Update) × Int) (fun x_ => Z 143 [(5, .ptr 1 0), (9, .rv (.sl 6 (x_.2.1.map Update.cells)))] [(1, .box 28 (avs (Firmware.cells f)))] 3) (fun x_ => x_ = (lEndsM_L2 h f v now (now, (newM h f v).1, 0)) ∧ Good x_.2.1) ?_ ?_
       ·
        refine AWp.block ?_
        refine AWp.loop (ι := Nat × (Int × (List Update) × Int)) (fun x_ => Z 143 [(3, vi x_.2.1), (4, .ptr 0 0), (5, .ptr 1 0), (9, .rv (.sl 6 (x_.2.2.1.map Update.cells))), (11, .rv (.sl 1 ((lEndsM_L1 h f v now ((List.replicate f.sums.length false))).map boolC))), (13, vi x_.2.2.2)] [(1, .box 28 (avs (Firmware.cells f))), (0, .box 25 (avs (Home.cells h)))] 3) (fun x_ => (loopW (lEndsM_B2 h f v now) 100 (now, (newM h f v).1, 0) = loopW (lEndsM_B2 h f v now) x_.1 x_.2 ∧ endsW (lEndsM_B2 h f v now) x_.1 x_.2) ∧ (x_.2.2.1.length = ((newM h f v).1).length ∧ Good x_.2.2.1)) (fun x_ => x_.1) (100, (now, (newM h f v).1, 0)) leZ ⟨⟨rfl, lEndsM_ends h f v now 99 _ _ _ (newM_good (f := f) (home_dev (by assumption)) (by omega)).len (by omega) (by omega) (by omega)⟩, ⟨rfl, newM_good (home_dev (by assumption)) (by omega)⟩⟩ ?_
        rintro ⟨n2_, ⟨a2_0, a2_1, a2_2⟩⟩ ⟨hs2_, hv2_⟩
        try dsimp only at hv2_
        try dsimp only at hs2_
        refine AWp.cv 143 [(3, vi a2_0), (4, .ptr 0 0), (5, .ptr 1 0), (9, .rv (.sl 6 (a2_1.map Update.cells))), (11, .rv (.sl 1 ((lEndsM_L1 h f v now ((List.replicate f.sums.length false))).map boolC))), (13, vi a2_2)] [(1, .box 28 (avs (Firmware.cells f))), (0, .box 25 (avs (Home.cells h)))] 3 ?_
        refine AWp.seq ?_
        refine AWp.rg ?_
        refine AOps.hzl [.run 2, .len Update.cells a2_1 6, .run 1] 143 [(3, vi a2_0), (4, .ptr 0 0), (5, .ptr 1 0), (9, .rv (.sl 6 (a2_1.map Update.cells))), (11, .rv (.sl 1 ((lEndsM_L1 h f v now ((List.replicate f.sums.length false))).map boolC))), (13, vi a2_2), (75, vi a2_2), (78, vi (IntKind.i64.wrap (((a2_1.length : Nat) : Int) - 1)))] [(1, .box 28 (avs (Firmware.cells f))), (0, .box 25 (avs (Home.cells h)))] 3 (fun hl => ?_)
        obtain ⟨hn18, -⟩ := hl
        refine AOps.he [.call 21 [vi (IntKind.i64.wrap (((a2_1.length : Nat) : Int) - 1))] (vi (ofM (IntKind.i64.wrap (((a2_1.length : Nat) : Int) - 1)))) [] 0 (ofM_ok (IntKind.i64.wrap (((a2_1.length : Nat) : Int) - 1)) (by first | (with_reducible first | assumption | exact home_dev (by assumption) | exact Good.len (by assumption) | exact Good.fit (by assumption) | exact Good.len hv2_.2 | exact Good.fit hv2_.2 | exact Good.len hv3_.2 | exact Good.fit hv3_.2 | exact Good.len hp2_ | exact Good.fit hp2_) | omega | (have := hv2_.2.len; have := wrap64_of (((a2_1.length : Nat) : Int) - 1) (by omega) (by omega); omega))), .run 1] 143 [(3, vi a2_0), (4, .ptr 0 0), (5, .ptr 1 0), (9, .rv (.sl 6 (a2_1.map Update.cells))), (11, .rv (.sl 1 ((lEndsM_L1 h f v now ((List.replicate f.sums.length false))).map boolC))), (13, vi a2_2), (80, vb (decide (a2_2 ≤ ofM (IntKind.i64.wrap (((a2_1.length : Nat) : Int) - 1)))))] [(1, .box 28 (avs (Firmware.cells f))), (0, .box 25 (avs (Home.cells h)))] 3 ?_
        refine AWp.cnd (decide (a2_2 ≤ ofM (IntKind.i64.wrap (((a2_1.length : Nat) : Int) - 1)))) (fun h19 => ?_) (fun h19 => ?_)
        ·
         have h19' := of_decide_eq_true h19
         refine AWp.skip ?_
         refine AWp.seq ?_
         refine AWp.block ?_
         have hgd20 : Good (startM a2_1 f a2_0) := by (repeat (with_reducible first | assumption | exact hv3_.2 | exact hv2_.2 | apply startM_good | apply haveM_good | apply installM_good | apply confirmM_good | omega))
         refine AWp.hz [.run 3, .call 22 [.rv (.sl 6 (a2_1.map Update.cells)), .agg (avs (Firmware.cells f)), vi a2_0] (.rv (.sl 6 ((startM a2_1 f a2_0).map Update.cells))) [] 0 (startM_ok a2_1 f a2_0 (by first | (with_reducible first | assumption | exact home_dev (by assumption) | exact Good.len (by assumption) | exact Good.fit (by assumption) | exact Good.len hv2_.2 | exact Good.fit hv2_.2 | exact Good.len hv3_.2 | exact Good.fit hv3_.2 | exact Good.len hp2_ | exact Good.fit hp2_) | omega | (have := hv2_.2.len; have := wrap64_of (((a2_1.length : Nat) : Int) - 1) (by omega) (by omega); omega)) (by first | (with_reducible first | assumption | exact home_dev (by assumption) | exact Good.len (by assumption) | exact Good.fit (by assumption) | exact Good.len hv2_.2 | exact Good.fit hv2_.2 | exact Good.len hv3_.2 | exact Good.fit hv3_.2 | exact Good.len hp2_ | exact Good.fit hp2_) | omega | (have := hv2_.2.len; have := wrap64_of (((a2_1.length : Nat) : Int) - 1) (by omega) (by omega); omega))), .run 1] 143 [(3, vi a2_0), (4, .ptr 0 0), (5, .ptr 1 0), (9, .rv (.sl 6 ((startM a2_1 f a2_0).map Update.cells))), (11, .rv (.sl 1 ((lEndsM_L1 h f v now ((List.replicate f.sums.length false))).map boolC))), (13, vi a2_2)] [(1, .box 28 (avs (Firmware.cells f))), (0, .box 25 (avs (Home.cells h)))] 3 ?_
         refine AWp.seq ?_
         refine AWp.hzl [.run 2, .len Dev.cells h.devices 7, .run 1] 143 [(3, vi a2_0), (4, .ptr 0 0), (5, .ptr 1 0), (9, .rv (.sl 6 ((startM a2_1 f a2_0).map Update.cells))), (11, .rv (.sl 1 ((lEndsM_L1 h f v now ((List.replicate f.sums.length false))).map boolC))), (13, vi a2_2), (88, .rv (.sl 7 (h.devices.map Dev.cells))), (89, vi ((h.devices.length : Nat) : Int)), (90, vi 0)] [(1, .box 28 (avs (Firmware.cells f))), (0, .box 25 (avs (Home.cells h)))] 3 (fun hl => ?_)
         obtain ⟨hn21, -⟩ := hl
         refine AWp.joinE1 (A := (List Update)) (fun x_ => Z 143 [(3, vi a2_0), (4, .ptr 0 0), (5, .ptr 1 0), (9, .rv (.sl 6 (x_.map Update.cells))), (11, .rv (.sl 1 ((lEndsM_L1 h f v now ((List.replicate f.sums.length false))).map boolC))), (13, vi a2_2)] [(1, .box 28 (avs (Firmware.cells f))), (0, .box 25 (avs (Home.cells h)))] 3) (fun x_ => x_ = (lEndsM_L3 h f v now a2_0 (startM a2_1 f a2_0))) ?_ ?_
         ·
          refine AWp.block ?_
          refine AWp.loop (ι := Nat × ((List Update))) (fun x_ => Z 143 [(3, vi a2_0), (4, .ptr 0 0), (5, .ptr 1 0), (9, .rv (.sl 6 (x_.2.map Update.cells))), (11, .rv (.sl 1 ((lEndsM_L1 h f v now ((List.replicate f.sums.length false))).map boolC))), (13, vi a2_2), (88, .rv (.sl 7 (h.devices.map Dev.cells))), (89, vi ((h.devices.length : Nat) : Int)), (90, vi ((x_.1 : Nat) : Int))] [(1, .box 28 (avs (Firmware.cells f))), (0, .box 25 (avs (Home.cells h)))] 3) (fun x_ => x_.1 ≤ h.devices.length ∧ (lEndsM_L3 h f v now a2_0 (startM a2_1 f a2_0)) = iterN (lEndsM_B3 h f v now a2_0) x_.1 (h.devices.length - x_.1) x_.2 ∧ (x_.2.length = ((newM h f v).1).length ∧ Good x_.2)) (fun x_ => h.devices.length - x_.1) (0, (startM a2_1 f a2_0)) leZ ⟨Nat.zero_le _, rfl, ⟨(startM_len _ _ _).trans hv2_.1, startM_good hv2_.2⟩⟩ ?_
          rintro ⟨k3_, a3_0⟩ ⟨hk3_, hs3_, hv3_⟩
          try dsimp only at hk3_
          try dsimp only at hs3_
          try dsimp only at hv3_
          refine AWp.cv 143 [(3, vi a2_0), (4, .ptr 0 0), (5, .ptr 1 0), (9, .rv (.sl 6 (a3_0.map Update.cells))), (11, .rv (.sl 1 ((lEndsM_L1 h f v now ((List.replicate f.sums.length false))).map boolC))), (13, vi a2_2), (88, .rv (.sl 7 (h.devices.map Dev.cells))), (89, vi ((h.devices.length : Nat) : Int)), (90, vi ((k3_ : Nat) : Int))] [(1, .box 28 (avs (Firmware.cells f))), (0, .box 25 (avs (Home.cells h)))] 3 ?_
          refine AWp.hz [.run 1] 143 [(3, vi a2_0), (4, .ptr 0 0), (5, .ptr 1 0), (9, .rv (.sl 6 (a3_0.map Update.cells))), (11, .rv (.sl 1 ((lEndsM_L1 h f v now ((List.replicate f.sums.length false))).map boolC))), (13, vi a2_2), (88, .rv (.sl 7 (h.devices.map Dev.cells))), (89, vi ((h.devices.length : Nat) : Int)), (90, vi ((k3_ : Nat) : Int)), (91, vb (decide (((k3_ : Nat) : Int) < ((h.devices.length : Nat) : Int))))] [(1, .box 28 (avs (Firmware.cells f))), (0, .box 25 (avs (Home.cells h)))] 3 ?_
          refine AWp.seq ?_
          refine AWp.cnd (decide (((k3_ : Nat) : Int) < ((h.devices.length : Nat) : Int))) (fun h22 => ?_) (fun h22 => ?_)
          ·
           have h22' := of_decide_eq_true h22
           refine AWp.skip ?_
           refine AWp.seq ?_
           refine AWp.block ?_
           obtain ⟨e3_, he3_⟩ := getEx (l := h.devices) (j := k3_) (by omega)
           refine AWp.hz [.idx Dev.cells h.devices 7 k3_ e3_ he3_, .run 3] 143 [(3, vi a2_0), (4, .ptr 0 0), (5, .ptr 1 0), (9, .rv (.sl 6 (a3_0.map Update.cells))), (11, .rv (.sl 1 ((lEndsM_L1 h f v now ((List.replicate f.sums.length false))).map boolC))), (13, vi a2_2), (15, .ptr 3 0), (88, .rv (.sl 7 (h.devices.map Dev.cells))), (89, vi ((h.devices.length : Nat) : Int)), (90, vi ((k3_ : Nat) : Int))] [(3, .box 49 (avs (Dev.cells e3_))), (1, .box 28 (avs (Firmware.cells f))), (0, .box 25 (avs (Home.cells h)))] 4 ?_
           have hgd23 : Good (haveM a3_0 f e3_.id (lEndsM_L1 h f v now ((List.replicate f.sums.length false)))) := by (repeat (with_reducible first | assumption | exact hv3_.2 | exact hv2_.2 | apply startM_good | apply haveM_good | apply installM_good | apply confirmM_good | omega))
           have hgd24 : Good (installM (haveM a3_0 f e3_.id (lEndsM_L1 h f v now ((List.replicate f.sums.length false)))) f e3_.id (IntKind.i64.wrap (a2_0 + 1))) := by (repeat (with_reducible first | assumption | exact hv3_.2 | exact hv2_.2 | apply startM_good | apply haveM_good | apply installM_good | apply confirmM_good | omega))
           refine AWp.dz [.rv (.sl 6 (a3_0.map Update.cells)), .agg (avs (Firmware.cells f)), .ptr 3 0, vi e3_.id, .rv (.sl 1 ((lEndsM_L1 h f v now ((List.replicate f.sums.length false))).map boolC)), .rv (.sl 6 ((haveM a3_0 f e3_.id (lEndsM_L1 h f v now ((List.replicate f.sums.length false)))).map Update.cells)), .agg (avs (Firmware.cells f)), .ptr 3 0, vi e3_.id, vi a2_0, vi (IntKind.i64.wrap (a2_0 + 1)), .rv (.sl 6 ((installM (haveM a3_0 f e3_.id (lEndsM_L1 h f v now ((List.replicate f.sums.length false)))) f e3_.id (IntKind.i64.wrap (a2_0 + 1))).map Update.cells)), .rv (.sl 6 ((installM (haveM a3_0 f e3_.id (lEndsM_L1 h f v now ((List.replicate f.sums.length false)))) f e3_.id (IntKind.i64.wrap (a2_0 + 1))).map Update.cells))] 143 [(3, vi a2_0), (4, .ptr 0 0), (5, .ptr 1 0), (9, .rv (.sl 6 ((installM (haveM a3_0 f e3_.id (lEndsM_L1 h f v now ((List.replicate f.sums.length false)))) f e3_.id (IntKind.i64.wrap (a2_0 + 1))).map Update.cells))), (11, .rv (.sl 1 ((lEndsM_L1 h f v now ((List.replicate f.sums.length false))).map boolC))), (13, vi a2_2), (15, .ptr 3 0), (88, .rv (.sl 7 (h.devices.map Dev.cells))), (89, vi ((h.devices.length : Nat) : Int)), (90, vi ((k3_ : Nat) : Int))] [(3, .box 49 (avs (Dev.cells e3_))), (1, .box 28 (avs (Firmware.cells f))), (0, .box 25 (avs (Home.cells h)))] 4 ?_ ?_
           ·
            refine DSteps.cons (DStep.va) ?_
            refine DSteps.cons (DStep.va) ?_
            refine DSteps.cons (DStep.va) ?_
            refine DSteps.cons (DStep.va) ?_
            refine DSteps.cons (DStep.va) ?_
            refine DSteps.cons (DStep.call rfl (by kernel_rfl) (by kernel_rfl) (by kernel_rfl) (args := [.rv (.sl 6 (a3_0.map Update.cells)), .agg (avs (Firmware.cells f)), vi e3_.id, .rv (.sl 1 ((lEndsM_L1 h f v now ((List.replicate f.sums.length false))).map boolC))]) (by kernel_rfl) (by kernel_rfl) (haveM_ok a3_0 f e3_.id (lEndsM_L1 h f v now ((List.replicate f.sums.length false))) (by first | (with_reducible first | assumption | exact home_dev (by assumption) | exact Good.len (by assumption) | exact Good.fit (by assumption) | exact Good.len hv2_.2 | exact Good.fit hv2_.2 | exact Good.len hv3_.2 | exact Good.fit hv3_.2 | exact Good.len hp2_ | exact Good.fit hp2_) | omega | (have := hv2_.2.len; have := wrap64_of (((a2_1.length : Nat) : Int) - 1) (by omega) (by omega); omega)) (by first | (with_reducible first | assumption | exact home_dev (by assumption) | exact Good.len (by assumption) | exact Good.fit (by assumption) | exact Good.len hv2_.2 | exact Good.fit hv2_.2 | exact Good.len hv3_.2 | exact Good.fit hv3_.2 | exact Good.len hp2_ | exact Good.fit hp2_) | omega | (have := hv2_.2.len; have := wrap64_of (((a2_1.length : Nat) : Int) - 1) (by omega) (by omega); omega)) (by first | (with_reducible first | assumption | exact home_dev (by assumption) | exact Good.len (by assumption) | exact Good.fit (by assumption) | exact Good.len hv2_.2 | exact Good.fit hv2_.2 | exact Good.len hv3_.2 | exact Good.fit hv3_.2 | exact Good.len hp2_ | exact Good.fit hp2_) | omega | (have := hv2_.2.len; have := wrap64_of (((a2_1.length : Nat) : Int) - 1) (by omega) (by omega); omega))) (by kernel_rfl) (Nat.le_of_ble_eq_true (by kernel_rfl))) ?_
            refine DSteps.cons (DStep.va) ?_
            refine DSteps.cons (DStep.va) ?_
            refine DSteps.cons (DStep.va) ?_
            refine DSteps.cons (DStep.va) ?_
            refine DSteps.cons (DStep.va) ?_
            refine DSteps.cons (DStep.call rfl (by kernel_rfl) (by kernel_rfl) (by kernel_rfl) (args := [.rv (.sl 6 ((haveM a3_0 f e3_.id (lEndsM_L1 h f v now ((List.replicate f.sums.length false)))).map Update.cells)), .agg (avs (Firmware.cells f)), vi e3_.id, vi (IntKind.i64.wrap (a2_0 + 1))]) (by kernel_rfl) (by kernel_rfl) (installM_ok (haveM a3_0 f e3_.id (lEndsM_L1 h f v now ((List.replicate f.sums.length false)))) f e3_.id (IntKind.i64.wrap (a2_0 + 1)) (by first | (with_reducible first | assumption | exact home_dev (by assumption) | exact Good.len (by assumption) | exact Good.fit (by assumption) | exact Good.len hv2_.2 | exact Good.fit hv2_.2 | exact Good.len hv3_.2 | exact Good.fit hv3_.2 | exact Good.len hp2_ | exact Good.fit hp2_) | omega | (have := hv2_.2.len; have := wrap64_of (((a2_1.length : Nat) : Int) - 1) (by omega) (by omega); omega)) (by first | (with_reducible first | assumption | exact home_dev (by assumption) | exact Good.len (by assumption) | exact Good.fit (by assumption) | exact Good.len hv2_.2 | exact Good.fit hv2_.2 | exact Good.len hv3_.2 | exact Good.fit hv3_.2 | exact Good.len hp2_ | exact Good.fit hp2_) | omega | (have := hv2_.2.len; have := wrap64_of (((a2_1.length : Nat) : Int) - 1) (by omega) (by omega); omega))) (by kernel_rfl) (Nat.le_of_ble_eq_true (by kernel_rfl))) ?_
            refine DSteps.cons (DStep.va) ?_
            exact DSteps.nl
           have hgd25 : Good (confirmM (installM (haveM a3_0 f e3_.id (lEndsM_L1 h f v now ((List.replicate f.sums.length false)))) f e3_.id (IntKind.i64.wrap (a2_0 + 1))) e3_.id true (IntKind.i64.wrap (a2_0 + 601))) := by (repeat (with_reducible first | assumption | exact hv3_.2 | exact hv2_.2 | apply startM_good | apply haveM_good | apply installM_good | apply confirmM_good | omega))
           refine AWp.he [.run 5, .call 25 [.rv (.sl 6 ((installM (haveM a3_0 f e3_.id (lEndsM_L1 h f v now ((List.replicate f.sums.length false)))) f e3_.id (IntKind.i64.wrap (a2_0 + 1))).map Update.cells)), vi e3_.id, vb true, vi (IntKind.i64.wrap (a2_0 + 601))] (.rv (.sl 6 ((confirmM (installM (haveM a3_0 f e3_.id (lEndsM_L1 h f v now ((List.replicate f.sums.length false)))) f e3_.id (IntKind.i64.wrap (a2_0 + 1))) e3_.id true (IntKind.i64.wrap (a2_0 + 601))).map Update.cells))) [] 0 (confirmM_ok (installM (haveM a3_0 f e3_.id (lEndsM_L1 h f v now ((List.replicate f.sums.length false)))) f e3_.id (IntKind.i64.wrap (a2_0 + 1))) e3_.id true (IntKind.i64.wrap (a2_0 + 601)) (by first | (with_reducible first | assumption | exact home_dev (by assumption) | exact Good.len (by assumption) | exact Good.fit (by assumption) | exact Good.len hv2_.2 | exact Good.fit hv2_.2 | exact Good.len hv3_.2 | exact Good.fit hv3_.2 | exact Good.len hp2_ | exact Good.fit hp2_) | omega | (have := hv2_.2.len; have := wrap64_of (((a2_1.length : Nat) : Int) - 1) (by omega) (by omega); omega)) (by first | (with_reducible first | assumption | exact home_dev (by assumption) | exact Good.len (by assumption) | exact Good.fit (by assumption) | exact Good.len hv2_.2 | exact Good.fit hv2_.2 | exact Good.len hv3_.2 | exact Good.fit hv3_.2 | exact Good.len hp2_ | exact Good.fit hp2_) | omega | (have := hv2_.2.len; have := wrap64_of (((a2_1.length : Nat) : Int) - 1) (by omega) (by omega); omega))), .run 1] 143 [(3, vi a2_0), (4, .ptr 0 0), (5, .ptr 1 0), (9, .rv (.sl 6 ((confirmM (installM (haveM a3_0 f e3_.id (lEndsM_L1 h f v now ((List.replicate f.sums.length false)))) f e3_.id (IntKind.i64.wrap (a2_0 + 1))) e3_.id true (IntKind.i64.wrap (a2_0 + 601))).map Update.cells))), (11, .rv (.sl 1 ((lEndsM_L1 h f v now ((List.replicate f.sums.length false))).map boolC))), (13, vi a2_2), (88, .rv (.sl 7 (h.devices.map Dev.cells))), (89, vi ((h.devices.length : Nat) : Int)), (90, vi ((k3_ : Nat) : Int))] [(1, .box 28 (avs (Firmware.cells f))), (0, .box 25 (avs (Home.cells h)))] 4 ?_
           refine AWp.he [.cast (vi (IntKind.i64.wrap (((k3_ : Nat) : Int) + 1))) (vi ((k3_ + 1 : Nat) : Int)) (congrArg vi (wrap_nat (by omega))), .run 1] 143 [(3, vi a2_0), (4, .ptr 0 0), (5, .ptr 1 0), (9, .rv (.sl 6 ((confirmM (installM (haveM a3_0 f e3_.id (lEndsM_L1 h f v now ((List.replicate f.sums.length false)))) f e3_.id (IntKind.i64.wrap (a2_0 + 1))) e3_.id true (IntKind.i64.wrap (a2_0 + 601))).map Update.cells))), (11, .rv (.sl 1 ((lEndsM_L1 h f v now ((List.replicate f.sums.length false))).map boolC))), (13, vi a2_2), (88, .rv (.sl 7 (h.devices.map Dev.cells))), (89, vi ((h.devices.length : Nat) : Int)), (90, vi ((k3_ + 1 : Nat) : Int))] [(1, .box 28 (avs (Firmware.cells f))), (0, .box 25 (avs (Home.cells h)))] 4 ?_
           exact ⟨(k3_ + 1, (confirmM (installM (haveM a3_0 f e3_.id (lEndsM_L1 h f v now ((List.replicate f.sums.length false)))) f e3_.id (IntKind.i64.wrap (a2_0 + 1))) e3_.id true (IntKind.i64.wrap (a2_0 + 601)))), ⟨by show k3_ + 1 ≤ _; omega, iterN_next hs3_ (by omega) (by unfold lEndsM_B3; (try dsimp only); (try simp only [he3_]); (try rw [h22]); first | done | kernel_rfl), by exact ⟨by rw [confirmM_len, installM_len, haveM_len]; exact hv3_.1, confirmM_good (installM_good (haveM_good (by omega) hv3_.2))⟩⟩, by show _ - (k3_ + 1) < _ - k3_; omega, leG⟩
          ·
           have h22' := of_decide_eq_false h22
           refine AWp.exit ?_
           have hq3_ : (a3_0) = (lEndsM_L3 h f v now a2_0 (startM a2_1 f a2_0)) := iterN_end hs3_ (by omega)
           exact ⟨(a3_0), hq3_, leG⟩
         ·
          rintro _ rfl
          refine AWp.he [.run 3] 143 [(3, vi (IntKind.i64.wrap (a2_0 + 700))), (4, .ptr 0 0), (5, .ptr 1 0), (9, .rv (.sl 6 ((lEndsM_L3 h f v now a2_0 (startM a2_1 f a2_0)).map Update.cells))), (11, .rv (.sl 1 ((lEndsM_L1 h f v now ((List.replicate f.sums.length false))).map boolC))), (13, vi a2_2)] [(1, .box 28 (avs (Firmware.cells f))), (0, .box 25 (avs (Home.cells h)))] 3 ?_
          refine AWp.he [.run 3] 143 [(3, vi (IntKind.i64.wrap (a2_0 + 700))), (4, .ptr 0 0), (5, .ptr 1 0), (9, .rv (.sl 6 ((lEndsM_L3 h f v now a2_0 (startM a2_1 f a2_0)).map Update.cells))), (11, .rv (.sl 1 ((lEndsM_L1 h f v now ((List.replicate f.sums.length false))).map boolC))), (13, vi (IntKind.i64.wrap (a2_2 + 1)))] [(1, .box 28 (avs (Firmware.cells f))), (0, .box 25 (avs (Home.cells h)))] 3 ?_
          obtain ⟨m2_, rfl, hm2_⟩ := loopW_next (a' := (IntKind.i64.wrap (a2_0 + 700), (lEndsM_L3 h f v now a2_0 (startM a2_1 f a2_0)), IntKind.i64.wrap (a2_2 + 1))) hs2_ (by unfold lEndsM_B2; (try dsimp only); (try rw [h19]); first | done | kernel_rfl)
          exact ⟨(m2_, (IntKind.i64.wrap (a2_0 + 700), (lEndsM_L3 h f v now a2_0 (startM a2_1 f a2_0)), IntKind.i64.wrap (a2_2 + 1))), ⟨hm2_, by exact ⟨(lEndsM_L3_len _ _ _ _ _ _).trans ((startM_len _ _ _).trans hv2_.1), lEndsM_L3_good (by omega) (startM_good hv2_.2)⟩⟩, Nat.lt_succ_self _, leG⟩
        ·
         have h19' := of_decide_eq_false h19
         refine AWp.exit ?_
         have hq2_ := loopW_brk (a' := (a2_0, a2_1, a2_2)) hs2_ (by unfold lEndsM_B2; (try dsimp only); (try rw [h19]); first | done | kernel_rfl)
         exact ⟨(a2_0, a2_1, a2_2), ⟨loopV_of hq2_, by exact hv2_.2⟩, leG⟩
       ·
        rintro _ ⟨rfl, hp2_⟩
        try dsimp only at hp2_
        refine AWp.seq ?_
        refine AWp.join (Z 143 [(5, .ptr 1 0), (9, .rv (.sl 6 (((lEndsM_L2 h f v now (now, (newM h f v).1, 0)).2.1).map Update.cells))), (129, vb (((waveOfM ((lEndsM_L2 h f v now (now, (newM h f v).1, 0)).2.1) f != -1) || stoppedM ((lEndsM_L2 h f v now (now, (newM h f v).1, 0)).2.1)) || ((((sendM ((lEndsM_L2 h f v now (now, (newM h f v).1, 0)).2.1) f).length : Nat) : Int) != 0)))] [(1, .box 28 (avs (Firmware.cells f)))] 3) ?_ ?_
        ·
         refine AWp.region ?_
         refine AOps.hg [.run 2, .call 14 [.rv (.sl 6 (((lEndsM_L2 h f v now (now, (newM h f v).1, 0)).2.1).map Update.cells)), .agg (avs (Firmware.cells f))] (vi (waveOfM ((lEndsM_L2 h f v now (now, (newM h f v).1, 0)).2.1) f)) [] 0 (waveOfM_ok ((lEndsM_L2 h f v now (now, (newM h f v).1, 0)).2.1) f (by first | (with_reducible first | assumption | exact home_dev (by assumption) | exact Good.len (by assumption) | exact Good.fit (by assumption) | exact Good.len hv2_.2 | exact Good.fit hv2_.2 | exact Good.len hv3_.2 | exact Good.fit hv3_.2 | exact Good.len hp2_ | exact Good.fit hp2_) | omega | (have := hv2_.2.len; have := wrap64_of (((a2_1.length : Nat) : Int) - 1) (by omega) (by omega); omega))), .run 2] ((waveOfM ((lEndsM_L2 h f v now (now, (newM h f v).1, 0)).2.1) f != -1)) 143 (fun b_ => [(5, .ptr 1 0), (9, .rv (.sl 6 (((lEndsM_L2 h f v now (now, (newM h f v).1, 0)).2.1).map Update.cells))), (119, vb b_)]) [(1, .box 28 (avs (Firmware.cells f)))] 3 (fun hg26 => ?_) (fun hg26 => ?_)
         ·
          refine AOps.he [.run 10] 143 [(5, .ptr 1 0), (9, .rv (.sl 6 (((lEndsM_L2 h f v now (now, (newM h f v).1, 0)).2.1).map Update.cells))), (129, vb true)] [(1, .box 28 (avs (Firmware.cells f)))] 3 ?_
          exact leZ (by rw [hg26]; first | done | kernel_rfl)
         ·
          refine AOps.hg [.run 1, .call 16 [.rv (.sl 6 (((lEndsM_L2 h f v now (now, (newM h f v).1, 0)).2.1).map Update.cells))] (vb (stoppedM ((lEndsM_L2 h f v now (now, (newM h f v).1, 0)).2.1))) [] 0 (stoppedM_ok ((lEndsM_L2 h f v now (now, (newM h f v).1, 0)).2.1)), .run 2] (stoppedM ((lEndsM_L2 h f v now (now, (newM h f v).1, 0)).2.1)) 143 (fun b_ => [(5, .ptr 1 0), (9, .rv (.sl 6 (((lEndsM_L2 h f v now (now, (newM h f v).1, 0)).2.1).map Update.cells))), (123, vb b_)]) [(1, .box 28 (avs (Firmware.cells f)))] 3 (fun hg27 => ?_) (fun hg27 => ?_)
          ·
           refine AOps.he [.run 6] 143 [(5, .ptr 1 0), (9, .rv (.sl 6 (((lEndsM_L2 h f v now (now, (newM h f v).1, 0)).2.1).map Update.cells))), (129, vb true)] [(1, .box 28 (avs (Firmware.cells f)))] 3 ?_
           exact leZ (by rw [hg26, hg27]; first | done | kernel_rfl)
          ·
           refine AOps.hel [.run 2, .call 19 [.rv (.sl 6 (((lEndsM_L2 h f v now (now, (newM h f v).1, 0)).2.1).map Update.cells)), .agg (avs (Firmware.cells f))] (.rv (.sl 2 ((sendM ((lEndsM_L2 h f v now (now, (newM h f v).1, 0)).2.1) f).map Pair.cells))) [] 0 (sendM_ok ((lEndsM_L2 h f v now (now, (newM h f v).1, 0)).2.1) f (by first | (with_reducible first | assumption | exact home_dev (by assumption) | exact Good.len (by assumption) | exact Good.fit (by assumption) | exact Good.len hv2_.2 | exact Good.fit hv2_.2 | exact Good.len hv3_.2 | exact Good.fit hv3_.2 | exact Good.len hp2_ | exact Good.fit hp2_) | omega | (have := hv2_.2.len; have := wrap64_of (((a2_1.length : Nat) : Int) - 1) (by omega) (by omega); omega))), .len Pair.cells (sendM ((lEndsM_L2 h f v now (now, (newM h f v).1, 0)).2.1) f) 2, .run 2] 143 [(5, .ptr 1 0), (9, .rv (.sl 6 (((lEndsM_L2 h f v now (now, (newM h f v).1, 0)).2.1).map Update.cells))), (129, vb ((((sendM ((lEndsM_L2 h f v now (now, (newM h f v).1, 0)).2.1) f).length : Nat) : Int) != 0))] [(1, .box 28 (avs (Firmware.cells f)))] 3 (fun hl => ?_)
           obtain ⟨hn28, -⟩ := hl
           exact leZ (by rw [hg26, hg27]; first | done | kernel_rfl)
        ·
         refine AWp.cnd ((((waveOfM ((lEndsM_L2 h f v now (now, (newM h f v).1, 0)).2.1) f != -1) || stoppedM ((lEndsM_L2 h f v now (now, (newM h f v).1, 0)).2.1)) || ((((sendM ((lEndsM_L2 h f v now (now, (newM h f v).1, 0)).2.1) f).length : Nat) : Int) != 0))) (fun h29 => ?_) (fun h29 => ?_)
         ·
          refine AWp.hz [.run 1] 143 [(8, vb false)] [] 3 ?_
          refine AWp.ret ?_
          exact leafR (r := vb false) (by unfold lEndsM; (try rw [h7]); (try rw [h10]); (try rw [h13]); (try rw [h29]); first | done | kernel_rfl)
         ·
          have h29l := or_fl h29
          have h29ll := or_fl h29l
          have h29lr := or_fr h29l
          have h29r := or_fr h29
          have h29r' := bne_f h29r
          refine AWp.skip ?_
          refine AWp.seq ?_
          refine AWp.hzl [.run 1, .len Update.cells ((lEndsM_L2 h f v now (now, (newM h f v).1, 0)).2.1) 6, .run 1] 143 [(5, .ptr 1 0), (130, .rv (.sl 6 (((lEndsM_L2 h f v now (now, (newM h f v).1, 0)).2.1).map Update.cells))), (131, vi ((((lEndsM_L2 h f v now (now, (newM h f v).1, 0)).2.1).length : Nat) : Int)), (132, vi 0)] [(1, .box 28 (avs (Firmware.cells f)))] 3 (fun hl => ?_)
          obtain ⟨hn30, -⟩ := hl
          refine AWp.block ?_
          refine AWp.loop (ι := Nat) (fun k4_ => Z 143 [(5, .ptr 1 0), (130, .rv (.sl 6 (((lEndsM_L2 h f v now (now, (newM h f v).1, 0)).2.1).map Update.cells))), (131, vi ((((lEndsM_L2 h f v now (now, (newM h f v).1, 0)).2.1).length : Nat) : Int)), (132, vi ((k4_ : Nat) : Int))] [(1, .box 28 (avs (Firmware.cells f)))] 3) (fun k4_ => k4_ ≤ (((lEndsM_L2 h f v now (now, (newM h f v).1, 0)).2.1).length) ∧ lEndsM_L4 h f v now = scanN (lEndsM_B4 h f v now) k4_ ((((lEndsM_L2 h f v now (now, (newM h f v).1, 0)).2.1).length) - k4_)) (fun k4_ => (((lEndsM_L2 h f v now (now, (newM h f v).1, 0)).2.1).length) - k4_) 0 leZ ⟨Nat.zero_le _, rfl⟩ ?_
          intro k4_ ⟨hk4_, hs4_⟩
          refine AWp.hz [.run 1] 143 [(5, .ptr 1 0), (130, .rv (.sl 6 (((lEndsM_L2 h f v now (now, (newM h f v).1, 0)).2.1).map Update.cells))), (131, vi ((((lEndsM_L2 h f v now (now, (newM h f v).1, 0)).2.1).length : Nat) : Int)), (132, vi ((k4_ : Nat) : Int)), (133, vb (decide (((k4_ : Nat) : Int) < ((((lEndsM_L2 h f v now (now, (newM h f v).1, 0)).2.1).length : Nat) : Int))))] [(1, .box 28 (avs (Firmware.cells f)))] 3 ?_
          refine AWp.seq ?_
          refine AWp.cnd (decide (((k4_ : Nat) : Int) < ((((lEndsM_L2 h f v now (now, (newM h f v).1, 0)).2.1).length : Nat) : Int))) (fun h31 => ?_) (fun h31 => ?_)
          ·
           have h31' := of_decide_eq_true h31
           refine AWp.skip ?_
           refine AWp.seq ?_
           refine AWp.block ?_
           obtain ⟨e4_, he4_⟩ := getEx (l := (lEndsM_L2 h f v now (now, (newM h f v).1, 0)).2.1) (j := k4_) (by omega)
           refine AWp.hz [.idx Update.cells ((lEndsM_L2 h f v now (now, (newM h f v).1, 0)).2.1) 6 k4_ e4_ he4_, .run 3] 143 [(5, .ptr 1 0), (17, .ptr 3 0), (130, .rv (.sl 6 (((lEndsM_L2 h f v now (now, (newM h f v).1, 0)).2.1).map Update.cells))), (131, vi ((((lEndsM_L2 h f v now (now, (newM h f v).1, 0)).2.1).length : Nat) : Int)), (132, vi ((k4_ : Nat) : Int))] [(3, .box 54 (avs (Update.cells e4_))), (1, .box 28 (avs (Firmware.cells f)))] 4 ?_
           refine AWp.hz [.run 5] 143 [(5, .ptr 1 0), (130, .rv (.sl 6 (((lEndsM_L2 h f v now (now, (newM h f v).1, 0)).2.1).map Update.cells))), (131, vi ((((lEndsM_L2 h f v now (now, (newM h f v).1, 0)).2.1).length : Nat) : Int)), (132, vi ((k4_ : Nat) : Int)), (140, vb (e4_.version != f.version))] [(1, .box 28 (avs (Firmware.cells f)))] 4 ?_
           refine AWp.cnd ((e4_.version != f.version)) (fun h32 => ?_) (fun h32 => ?_)
           ·
            refine AWp.hz [.run 1] 143 [(8, vb false)] [] 4 ?_
            refine AWp.ret ?_
            have hL4_ : lEndsM_L4 h f v now = some false := scanN_some hs4_ (by omega) (by unfold lEndsM_B4; (try simp only [he4_]); (try rw [h31]); (try rw [h32]); first | done | kernel_rfl)
            exact leafR (r := vb false) (by unfold lEndsM; (try rw [h7]); (try rw [h10]); (try rw [h13]); (try rw [h29]); (try rw [hL4_]); first | done | kernel_rfl)
           ·
            refine AWp.skip ?_
            refine AWp.he [.cast (vi (IntKind.i64.wrap (((k4_ : Nat) : Int) + 1))) (vi ((k4_ + 1 : Nat) : Int)) (congrArg vi (wrap_nat (by omega))), .run 1] 143 [(5, .ptr 1 0), (130, .rv (.sl 6 (((lEndsM_L2 h f v now (now, (newM h f v).1, 0)).2.1).map Update.cells))), (131, vi ((((lEndsM_L2 h f v now (now, (newM h f v).1, 0)).2.1).length : Nat) : Int)), (132, vi ((k4_ + 1 : Nat) : Int))] [(1, .box 28 (avs (Firmware.cells f)))] 4 ?_
            exact ⟨k4_ + 1, ⟨by omega, scanN_none hs4_ (by omega) (by unfold lEndsM_B4; (try simp only [he4_]); (try rw [h31]); (try rw [h32]); first | done | kernel_rfl)⟩, by omega, leG⟩
          ·
           have h31' := of_decide_eq_false h31
           refine AWp.exit ?_
           have hL4_ : lEndsM_L4 h f v now = none := scanN_end hs4_ (by omega)
           refine AWp.hz [.call 9 [] (vb true) [] 0 (awake_ok), .run 1] 143 [(8, vb true)] [] 3 ?_
           refine AWp.ret ?_
           exact leafR (r := vb true) (by unfold lEndsM; (try rw [h7]); (try rw [h10]); (try rw [h13]); (try rw [h29]); (try rw [hL4_]); first | done | kernel_rfl)
end Go.Proofs.Ytjgpnceaicijcaa
