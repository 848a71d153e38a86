/- RolloutWaves: what it computes. -/
import Derived.Test.YtjgpnceaicijcaaWB8
namespace Go.Proofs.Ytjgpnceaicijcaa
open Go Go.Av Go.Hh Go.Proofs
set_option maxRecDepth 100000
set_option maxHeartbeats 4000000
theorem stepM_len (l : List Update) (f : Firmware) (o : Op51) : (stepM l f o).length = l.length := by
  unfold stepM
  simp only [cond_eq_ite]
  repeat' split
  all_goals simp only [startM_len, haveM_len, installM_len, confirmM_len, overdueM_len]
theorem stepM_good {l : List Update} {f : Firmware} {o : Op51} (hs : f.sums.length ≤ 1000000) (h : Good l) : Good (stepM l f o) := by
  unfold stepM
  simp only [cond_eq_ite]
  repeat' split
  · exact startM_good h
  · exact haveM_good hs h
  · exact installM_good h
  · exact confirmM_good h
  · exact overdueM_good h
  · exact h
def lWavesM_B3 (h : Home) (f : Firmware) (v : List Pair) (os : List Op51) (a1_0 : List Update) (k2_ : Nat) (e1_ : Op51) (k3_ : Nat) : Option Bool :=
  (bif decide (ofM ((k3_ : Nat) : Int) < ofM ((k2_ : Nat) : Int)) then (match (stepM a1_0 f e1_)[k3_]? with | some e5_ => (bif !(rcompleteM e5_ f) then some false else none) | none => none) else none)
def lWavesM_L3 (h : Home) (f : Firmware) (v : List Pair) (os : List Op51) (a1_0 : List Update) (k2_ : Nat) (e1_ : Op51) : Option Bool := scanN (lWavesM_B3 h f v os a1_0 k2_ e1_) 0 (((stepM a1_0 f e1_).take k2_).length)
def lWavesM_B2 (h : Home) (f : Firmware) (v : List Pair) (os : List Op51) (a1_0 : List Update) (e1_ : Op51) (k2_ : Nat) : Option Bool :=
  (match (stepM a1_0 f e1_)[k2_]? with | some e2_ => (match ((newM h f v).1)[k2_]? with | some e3_ => (bif (e2_.dev != e3_.dev) then some false else (bif (e2_.status != 0) then (match (a1_0)[k2_]? with | some e4_ => (bif (e4_.status == 0) then (bif stoppedM a1_0 then some false else (bif (((e2_.version != (bif ((e2_.status == 3) || (e2_.status == 4)) then f.version else e3_.version)) || decide (e2_.status < 0)) || decide (e2_.status > 5)) then some false else (bif (e2_.status == 0) then none else lWavesM_L3 h f v os a1_0 k2_ e1_))) else (bif (((e2_.version != (bif ((e2_.status == 3) || (e2_.status == 4)) then f.version else e3_.version)) || decide (e2_.status < 0)) || decide (e2_.status > 5)) then some false else (bif (e2_.status == 0) then none else lWavesM_L3 h f v os a1_0 k2_ e1_))) | none => none) else (bif (((e2_.version != (bif ((e2_.status == 3) || (e2_.status == 4)) then f.version else e3_.version)) || decide (e2_.status < 0)) || decide (e2_.status > 5)) then some false else (bif (e2_.status == 0) then none else lWavesM_L3 h f v os a1_0 k2_ e1_)))) | none => none) | none => none)
def lWavesM_L2 (h : Home) (f : Firmware) (v : List Pair) (os : List Op51) (a1_0 : List Update) (e1_ : Op51) : Option Bool := scanN (lWavesM_B2 h f v os a1_0 e1_) 0 ((stepM a1_0 f e1_).length)
def lWavesM_B1 (h : Home) (f : Firmware) (v : List Pair) (os : List Op51) (k1_ : Nat) (x_ : (List Update)) : Step Bool ((List Update)) :=
  match x_ with
  | (a1_0) => (match (os)[k1_]? with | some e1_ => (bif decide (((e1_.have_.length : Nat) : Int) > 100) then .ret true else (bif ((((stepM a1_0 f e1_).length : Nat) : Int) != ((((newM h f v).1).length : Nat) : Int)) then .ret false else (match lWavesM_L2 h f v os a1_0 e1_ with | some r_ => .ret r_ | none => .nxt (stepM a1_0 f e1_)))) | none => .nxt x_)
def lWavesM_L1 (h : Home) (f : Firmware) (v : List Pair) (os : List Op51) (x_ : (List Update)) : Bool ⊕ ((List Update)) := loopS (lWavesM_B1 h f v os) 0 os.length x_
def lWavesM (h : Home) (f : Firmware) (v : List Pair) (os : List Op51) : Bool :=
  (bif ((!(homeM h) || (decide (((f.sums.length : Nat) : Int) > 80) || decide (((v.length : Nat) : Int) > 40))) || decide (((os.length : Nat) : Int) > 200)) then true else (bif (((newM h f v).2) != 0) then (((((newM h f v).1).length : Nat) : Int) == 0) else (match (lWavesM_L1 h f v os ((newM h f v).1)) with | .inl r_ => r_ | .inr (a1_0) => true)))
theorem lWavesM_ok (h : Home) (f : Firmware) (v : List Pair) (os : List Op51) :
 ACalls Try.prog G_ 7 [.agg (avs (Home.cells h)), .agg (avs (Firmware.cells f)), .rv (.sl 2 (v.map Pair.cells)), .rv (.sl 5 (os.map Op51.cells))] [] 0 (fun r τ => r = vb (lWavesM h f v os) ∧ τ = []) := by
 refine ACalls.body Try.func7 rfl 163 [(0, .agg (avs (Home.cells h))), (1, .agg (avs (Firmware.cells f))), (2, .rv (.sl 2 (v.map Pair.cells))), (3, .rv (.sl 5 (os.map Op51.cells)))] ?_
 refine AWp.hz [.run 3] 163 [(2, .rv (.sl 2 (v.map Pair.cells))), (3, .rv (.sl 5 (os.map Op51.cells))), (4, .ptr 0 0), (5, .ptr 1 0)] [(1, .box 28 (avs (Firmware.cells f))), (0, .box 25 (avs (Home.cells h)))] 2 ?_
 refine AWp.seq ?_
 refine AWp.join (Z 163 [(2, .rv (.sl 2 (v.map Pair.cells))), (3, .rv (.sl 5 (os.map Op51.cells))), (4, .ptr 0 0), (5, .ptr 1 0), (37, vb ((!(homeM h) || (decide (((f.sums.length : Nat) : Int) > 80) || decide (((v.length : Nat) : Int) > 40))) || decide (((os.length : Nat) : Int) > 200)))] [(1, .box 28 (avs (Firmware.cells f))), (0, .box 25 (avs (Home.cells h)))] 2) ?_ ?_
 ·
  refine AWp.region ?_
  refine AOps.hg [.run 1, .call 8 [.agg (avs (Home.cells h))] (vb (homeM h)) [] 0 (homeM_ok h), .run 2] (!(homeM h)) 163 (fun b_ => [(2, .rv (.sl 2 (v.map Pair.cells))), (3, .rv (.sl 5 (os.map Op51.cells))), (4, .ptr 0 0), (5, .ptr 1 0), (22, vb b_)]) [(1, .box 28 (avs (Firmware.cells f))), (0, .box 25 (avs (Home.cells h)))] 2 (fun hg1 => ?_) (fun hg1 => ?_)
  ·
   refine AOps.he [.run 15] 163 [(2, .rv (.sl 2 (v.map Pair.cells))), (3, .rv (.sl 5 (os.map Op51.cells))), (4, .ptr 0 0), (5, .ptr 1 0), (37, vb true)] [(1, .box 28 (avs (Firmware.cells f))), (0, .box 25 (avs (Home.cells h)))] 2 ?_
   exact leZ (by rw [hg1]; first | done | kernel_rfl)
  ·
   refine AOps.hzl [.run 2, .len intC f.sums 1, .run 3] 163 [(2, .rv (.sl 2 (v.map Pair.cells))), (3, .rv (.sl 5 (os.map Op51.cells))), (4, .ptr 0 0), (5, .ptr 1 0), (28, vb (decide (((f.sums.length : Nat) : Int) > 80)))] [(1, .box 28 (avs (Firmware.cells f))), (0, .box 25 (avs (Home.cells h)))] 2 (fun hl => ?_)
   obtain ⟨hn2, -⟩ := hl
   refine AOps.hg [] (decide (((f.sums.length : Nat) : Int) > 80)) 163 (fun b_ => [(2, .rv (.sl 2 (v.map Pair.cells))), (3, .rv (.sl 5 (os.map Op51.cells))), (4, .ptr 0 0), (5, .ptr 1 0), (28, vb b_)]) [(1, .box 28 (avs (Firmware.cells f))), (0, .box 25 (avs (Home.cells h)))] 2 (fun hg3 => ?_) (fun hg3 => ?_)
   ·
    have hg3' := of_decide_eq_true hg3
    refine AOps.he [.run 9] 163 [(2, .rv (.sl 2 (v.map Pair.cells))), (3, .rv (.sl 5 (os.map Op51.cells))), (4, .ptr 0 0), (5, .ptr 1 0), (37, vb true)] [(1, .box 28 (avs (Firmware.cells f))), (0, .box 25 (avs (Home.cells h)))] 2 ?_
    exact leZ (by rw [hg1, hg3]; first | done | kernel_rfl)
   ·
    have hg3' := of_decide_eq_false hg3
    refine AOps.hzl [.run 1, .len Pair.cells v 2, .run 3] 163 [(2, .rv (.sl 2 (v.map Pair.cells))), (3, .rv (.sl 5 (os.map Op51.cells))), (4, .ptr 0 0), (5, .ptr 1 0), (33, vb (decide (((v.length : Nat) : Int) > 40)))] [(1, .box 28 (avs (Firmware.cells f))), (0, .box 25 (avs (Home.cells h)))] 2 (fun hl => ?_)
    obtain ⟨hn4, -⟩ := hl
    refine AOps.hg [] (decide (((v.length : Nat) : Int) > 40)) 163 (fun b_ => [(2, .rv (.sl 2 (v.map Pair.cells))), (3, .rv (.sl 5 (os.map Op51.cells))), (4, .ptr 0 0), (5, .ptr 1 0), (33, vb b_)]) [(1, .box 28 (avs (Firmware.cells f))), (0, .box 25 (avs (Home.cells h)))] 2 (fun hg5 => ?_) (fun hg5 => ?_)
    ·
     have hg5' := of_decide_eq_true hg5
     refine AOps.he [.run 4] 163 [(2, .rv (.sl 2 (v.map Pair.cells))), (3, .rv (.sl 5 (os.map Op51.cells))), (4, .ptr 0 0), (5, .ptr 1 0), (37, vb true)] [(1, .box 28 (avs (Firmware.cells f))), (0, .box 25 (avs (Home.cells h)))] 2 ?_
     exact leZ (by rw [hg1, hg3, hg5]; first | done | kernel_rfl)
    ·
     have hg5' := of_decide_eq_false hg5
     refine AOps.hel [.run 1, .len Op51.cells os 5, .run 2] 163 [(2, .rv (.sl 2 (v.map Pair.cells))), (3, .rv (.sl 5 (os.map Op51.cells))), (4, .ptr 0 0), (5, .ptr 1 0), (37, vb (decide (((os.length : Nat) : Int) > 200)))] [(1, .box 28 (avs (Firmware.cells f))), (0, .box 25 (avs (Home.cells h)))] 2 (fun hl => ?_)
     obtain ⟨hn6, -⟩ := hl
     exact leZ (by rw [hg1, hg3, hg5]; first | done | kernel_rfl)
 ·
  refine AWp.cnd (((!(homeM h) || (decide (((f.sums.length : Nat) : Int) > 80) || decide (((v.length : Nat) : Int) > 40))) || decide (((os.length : Nat) : Int) > 200))) (fun h7 => ?_) (fun h7 => ?_)
  ·
   refine AWp.hz [.call 9 [] (vb true) [] 0 (awake_ok), .run 1] 163 [(8, vb true)] [] 2 ?_
   refine AWp.ret ?_
   exact leafR (r := vb true) (by show (vb true : AV) = vb (lWavesM h f v os); unfold lWavesM; (try rw [h7]); first | done | kernel_rfl)
  ·
   have h7l := or_fl h7
   have h7ll := or_fl h7l
   have h7lr := or_fr h7l
   have h7lrl := or_fl h7lr
   have h7lrl' := of_decide_eq_false h7lrl
   have h7lrr := or_fr h7lr
   have h7lrr' := of_decide_eq_false h7lrr
   have h7r := or_fr h7
   have h7r' := of_decide_eq_false h7r
   refine AWp.skip ?_
   refine AWp.hz [.run 3, .call 10 [.agg (avs (Home.cells h)), .agg (avs (Firmware.cells f)), .rv (.sl 2 (v.map Pair.cells))] (.tuple [.rv (.sl 6 (((newM h f v).1).map Update.cells)), vi ((newM h f v).2)]) [] 0 (newM_ok h f v (by first | (with_reducible first | assumption | exact home_dev (by assumption) | exact hv1_.2 | exact Good.len hv1_.2 | exact Good.fit hv1_.2) | omega | (have := hv1_.2.len; have := hv1_.1; have := stepM_len a1_0 f e1_; simp only [List.length_take] at *; omega)) (by first | (with_reducible first | assumption | exact home_dev (by assumption) | exact hv1_.2 | exact Good.len hv1_.2 | exact Good.fit hv1_.2) | omega | (have := hv1_.2.len; have := hv1_.1; have := stepM_len a1_0 f e1_; simp only [List.length_take] at *; omega))), .run 5] 163 [(3, .rv (.sl 5 (os.map Op51.cells))), (5, .ptr 1 0), (9, .rv (.sl 6 (((newM h f v).1).map Update.cells))), (10, vi ((newM h f v).2))] [(1, .box 28 (avs (Firmware.cells f)))] 2 ?_
   refine AWp.seq ?_
   refine AWp.hz [.run 2] 163 [(3, .rv (.sl 5 (os.map Op51.cells))), (5, .ptr 1 0), (9, .rv (.sl 6 (((newM h f v).1).map Update.cells))), (47, vb (((newM h f v).2) != 0))] [(1, .box 28 (avs (Firmware.cells f)))] 2 ?_
   refine AWp.cnd ((((newM h f v).2) != 0)) (fun h8 => ?_) (fun h8 => ?_)
   ·
    refine AWp.join (Z 163 [(8, vb (((((newM h f v).1).length : Nat) : Int) == 0))] [] 2) ?_ ?_
    ·
     refine AWp.region ?_
     refine AOps.hzl [.run 1, .len Update.cells ((newM h f v).1) 6, .run 2] 163 [(51, vb (((((newM h f v).1).length : Nat) : Int) == 0))] [] 2 (fun hl => ?_)
     obtain ⟨hn9, -⟩ := hl
     refine AOps.hg [] ((((((newM h f v).1).length : Nat) : Int) == 0)) 163 (fun b_ => [(51, vb b_)]) [] 2 (fun hg10 => ?_) (fun hg10 => ?_)
     ·
      have hg10' := beq_t hg10
      refine AOps.he [.call 9 [] (vb true) [] 0 (awake_ok), .run 2] 163 [(8, vb true)] [] 2 ?_
      exact leZ (by rw [hg10]; first | done | kernel_rfl)
     ·
      have hg10' := beq_f hg10
      refine AOps.he [.run 3] 163 [(8, vb false)] [] 2 ?_
      exact leZ (by rw [hg10]; first | done | kernel_rfl)
    ·
     refine AWp.ret ?_
     exact leafR (r := vb (((((newM h f v).1).length : Nat) : Int) == 0)) (by show (vb (((((newM h f v).1).length : Nat) : Int) == 0) : AV) = vb (lWavesM h f v os); unfold lWavesM; (try rw [h7]); (try rw [h8]); first | done | kernel_rfl)
   ·
    refine AWp.skip ?_
    refine AWp.hz [.run 2] 163 [(3, .rv (.sl 5 (os.map Op51.cells))), (5, .ptr 1 0), (9, .rv (.sl 6 (((newM h f v).1).map Update.cells))), (11, .rv (.sl 6 (((newM h f v).1).map Update.cells)))] [(1, .box 28 (avs (Firmware.cells f)))] 2 ?_
    refine AWp.seq ?_
    refine AWp.hzl [.run 1, .len Op51.cells os 5, .run 1] 163 [(5, .ptr 1 0), (9, .rv (.sl 6 (((newM h f v).1).map Update.cells))), (11, .rv (.sl 6 (((newM h f v).1).map Update.cells))), (55, .rv (.sl 5 (os.map Op51.cells))), (56, vi ((os.length : Nat) : Int)), (57, vi 0)] [(1, .box 28 (avs (Firmware.cells f)))] 2 (fun hl => ?_)
    obtain ⟨hn11, -⟩ := hl
    refine AWp.joinE1 (A := (List Update)) (fun x_ => Z 163 [] [] 2) (fun x_ => (lWavesM_L1 h f v os ((newM h f v).1)) = .inr x_) ?_ ?_
    ·
     refine AWp.block ?_
     refine AWp.loop (ι := Nat × ((List Update))) (fun x_ => Z 163 [(5, .ptr 1 0), (9, .rv (.sl 6 (((newM h f v).1).map Update.cells))), (11, .rv (.sl 6 (x_.2.map Update.cells))), (55, .rv (.sl 5 (os.map Op51.cells))), (56, vi ((os.length : Nat) : Int)), (57, vi ((x_.1 : Nat) : Int))] [(1, .box 28 (avs (Firmware.cells f)))] 2) (fun x_ => x_.1 ≤ os.length ∧ (lWavesM_L1 h f v os ((newM h f v).1)) = loopS (lWavesM_B1 h f v os) x_.1 (os.length - x_.1) x_.2 ∧ (x_.2.length = ((newM h f v).1).length ∧ Good x_.2)) (fun x_ => os.length - x_.1) (0, ((newM h f v).1)) leZ ⟨Nat.zero_le _, rfl, ⟨rfl, newM_good (home_dev (by assumption)) (by omega)⟩⟩ ?_
     rintro ⟨k1_, a1_0⟩ ⟨hk1_, hs1_, hv1_⟩
     try dsimp only at hk1_
     try dsimp only at hs1_
     try dsimp only at hv1_
     refine AWp.cv 163 [(5, .ptr 1 0), (9, .rv (.sl 6 (((newM h f v).1).map Update.cells))), (11, .rv (.sl 6 (a1_0.map Update.cells))), (55, .rv (.sl 5 (os.map Op51.cells))), (56, vi ((os.length : Nat) : Int)), (57, vi ((k1_ : Nat) : Int))] [(1, .box 28 (avs (Firmware.cells f)))] 2 ?_
     refine AWp.hz [.run 1] 163 [(5, .ptr 1 0), (9, .rv (.sl 6 (((newM h f v).1).map Update.cells))), (11, .rv (.sl 6 (a1_0.map Update.cells))), (55, .rv (.sl 5 (os.map Op51.cells))), (56, vi ((os.length : Nat) : Int)), (57, vi ((k1_ : Nat) : Int)), (58, vb (decide (((k1_ : Nat) : Int) < ((os.length : Nat) : Int))))] [(1, .box 28 (avs (Firmware.cells f)))] 2 ?_
     refine AWp.seq ?_
     refine AWp.cnd (decide (((k1_ : Nat) : Int) < ((os.length : Nat) : Int))) (fun h12 => ?_) (fun h12 => ?_)
     ·
      have h12' := of_decide_eq_true h12
      refine AWp.skip ?_
      refine AWp.seq ?_
      refine AWp.block ?_
      obtain ⟨e1_, he1_⟩ := getEx (l := os) (j := k1_) (by omega)
      refine AWp.hz [.idx Op51.cells os 5 k1_ e1_ he1_, .run 3] 163 [(5, .ptr 1 0), (9, .rv (.sl 6 (((newM h f v).1).map Update.cells))), (11, .rv (.sl 6 (a1_0.map Update.cells))), (13, .ptr 2 0), (55, .rv (.sl 5 (os.map Op51.cells))), (56, vi ((os.length : Nat) : Int)), (57, vi ((k1_ : Nat) : Int))] [(2, .box 57 (avs (Op51.cells e1_))), (1, .box 28 (avs (Firmware.cells f)))] 3 ?_
      refine AWp.seq ?_
      refine AWp.hzl [.run 2, .len boolC e1_.have_ 1, .run 1] 163 [(5, .ptr 1 0), (9, .rv (.sl 6 (((newM h f v).1).map Update.cells))), (11, .rv (.sl 6 (a1_0.map Update.cells))), (13, .ptr 2 0), (55, .rv (.sl 5 (os.map Op51.cells))), (56, vi ((os.length : Nat) : Int)), (57, vi ((k1_ : Nat) : Int)), (64, vb (decide (((e1_.have_.length : Nat) : Int) > 100)))] [(2, .box 57 (avs (Op51.cells e1_))), (1, .box 28 (avs (Firmware.cells f)))] 3 (fun hl => ?_)
      obtain ⟨hn13, -⟩ := hl
      refine AWp.cnd (decide (((e1_.have_.length : Nat) : Int) > 100)) (fun h14 => ?_) (fun h14 => ?_)
      ·
       have h14' := of_decide_eq_true h14
       refine AWp.hz [.call 9 [] (vb true) [] 0 (awake_ok), .run 1] 163 [(8, vb true)] [] 3 ?_
       refine AWp.ret ?_
       have hL1_ : (lWavesM_L1 h f v os ((newM h f v).1)) = .inl true := loopS_ret hs1_ (by omega) (by unfold lWavesM_B1; (try dsimp only); (try simp only [he1_]); (try rw [h12]); (try rw [h14]); first | done | kernel_rfl)
       exact leafR (r := vb true) (by show (vb true : AV) = vb (lWavesM h f v os); unfold lWavesM; (try rw [h7]); (try rw [h8]); (try rw [hL1_]); (try dsimp only); first | done | kernel_rfl)
      ·
       have h14' := of_decide_eq_false h14
       refine AWp.skip ?_
       refine AWp.hz [.run 3, .call 26 [.rv (.sl 6 (a1_0.map Update.cells)), .agg (avs (Firmware.cells f)), .agg (avs (Op51.cells e1_))] (.rv (.sl 6 ((stepM a1_0 f e1_).map Update.cells))) [] 0 (stepM_ok a1_0 f e1_ (by first | (with_reducible first | assumption | exact home_dev (by assumption) | exact hv1_.2 | exact Good.len hv1_.2 | exact Good.fit hv1_.2) | omega | (have := hv1_.2.len; have := hv1_.1; have := stepM_len a1_0 f e1_; simp only [List.length_take] at *; omega)) (by first | (with_reducible first | assumption | exact home_dev (by assumption) | exact hv1_.2 | exact Good.len hv1_.2 | exact Good.fit hv1_.2) | omega | (have := hv1_.2.len; have := hv1_.1; have := stepM_len a1_0 f e1_; simp only [List.length_take] at *; omega))), .run 1] 163 [(5, .ptr 1 0), (9, .rv (.sl 6 (((newM h f v).1).map Update.cells))), (11, .rv (.sl 6 (a1_0.map Update.cells))), (14, .rv (.sl 6 ((stepM a1_0 f e1_).map Update.cells))), (55, .rv (.sl 5 (os.map Op51.cells))), (56, vi ((os.length : Nat) : Int)), (57, vi ((k1_ : Nat) : Int))] [(1, .box 28 (avs (Firmware.cells f)))] 3 ?_
       refine AWp.seq ?_
       refine AWp.hzl [.run 1, .len Update.cells (stepM a1_0 f e1_) 6, .run 1, .len Update.cells ((newM h f v).1) 6, .run 1] 163 [(5, .ptr 1 0), (9, .rv (.sl 6 (((newM h f v).1).map Update.cells))), (11, .rv (.sl 6 (a1_0.map Update.cells))), (14, .rv (.sl 6 ((stepM a1_0 f e1_).map Update.cells))), (55, .rv (.sl 5 (os.map Op51.cells))), (56, vi ((os.length : Nat) : Int)), (57, vi ((k1_ : Nat) : Int)), (74, vb ((((stepM a1_0 f e1_).length : Nat) : Int) != ((((newM h f v).1).length : Nat) : Int)))] [(1, .box 28 (avs (Firmware.cells f)))] 3 (fun hl => ?_)
       obtain ⟨hn15, hn16, -⟩ := hl
       refine AWp.cnd (((((stepM a1_0 f e1_).length : Nat) : Int) != ((((newM h f v).1).length : Nat) : Int))) (fun h17 => ?_) (fun h17 => ?_)
       ·
        have h17' := bne_t h17
        refine AWp.hz [.run 1] 163 [(8, vb false)] [] 3 ?_
        refine AWp.ret ?_
        have hL1_ : (lWavesM_L1 h f v os ((newM h f v).1)) = .inl false := loopS_ret hs1_ (by omega) (by unfold lWavesM_B1; (try dsimp only); (try simp only [he1_]); (try rw [h12]); (try rw [h14]); (try rw [h17]); first | done | kernel_rfl)
        exact leafR (r := vb false) (by show (vb false : AV) = vb (lWavesM h f v os); unfold lWavesM; (try rw [h7]); (try rw [h8]); (try rw [hL1_]); (try dsimp only); first | done | kernel_rfl)
       ·
        have h17' := bne_f h17
        refine AWp.skip ?_
        refine AWp.seq ?_
        refine AWp.hzl [.run 1, .len Update.cells (stepM a1_0 f e1_) 6, .run 1] 163 [(5, .ptr 1 0), (9, .rv (.sl 6 (((newM h f v).1).map Update.cells))), (11, .rv (.sl 6 (a1_0.map Update.cells))), (14, .rv (.sl 6 ((stepM a1_0 f e1_).map Update.cells))), (55, .rv (.sl 5 (os.map Op51.cells))), (56, vi ((os.length : Nat) : Int)), (57, vi ((k1_ : Nat) : Int)), (75, .rv (.sl 6 ((stepM a1_0 f e1_).map Update.cells))), (76, vi (((stepM a1_0 f e1_).length : Nat) : Int)), (77, vi 0)] [(1, .box 28 (avs (Firmware.cells f)))] 3 (fun hl => ?_)
        obtain ⟨hn18, -⟩ := hl
        refine AWp.block ?_
        refine AWp.loop (ι := Nat) (fun k2_ => Z 163 [(5, .ptr 1 0), (9, .rv (.sl 6 (((newM h f v).1).map Update.cells))), (11, .rv (.sl 6 (a1_0.map Update.cells))), (14, .rv (.sl 6 ((stepM a1_0 f e1_).map Update.cells))), (55, .rv (.sl 5 (os.map Op51.cells))), (56, vi ((os.length : Nat) : Int)), (57, vi ((k1_ : Nat) : Int)), (75, .rv (.sl 6 ((stepM a1_0 f e1_).map Update.cells))), (76, vi (((stepM a1_0 f e1_).length : Nat) : Int)), (77, vi ((k2_ : Nat) : Int))] [(1, .box 28 (avs (Firmware.cells f)))] 3) (fun k2_ => k2_ ≤ ((stepM a1_0 f e1_).length) ∧ lWavesM_L2 h f v os a1_0 e1_ = scanN (lWavesM_B2 h f v os a1_0 e1_) k2_ (((stepM a1_0 f e1_).length) - k2_)) (fun k2_ => ((stepM a1_0 f e1_).length) - k2_) 0 leZ ⟨Nat.zero_le _, rfl⟩ ?_
        intro k2_ ⟨hk2_, hs2_⟩
        refine AWp.hz [.run 1] 163 [(5, .ptr 1 0), (9, .rv (.sl 6 (((newM h f v).1).map Update.cells))), (11, .rv (.sl 6 (a1_0.map Update.cells))), (14, .rv (.sl 6 ((stepM a1_0 f e1_).map Update.cells))), (55, .rv (.sl 5 (os.map Op51.cells))), (56, vi ((os.length : Nat) : Int)), (57, vi ((k1_ : Nat) : Int)), (75, .rv (.sl 6 ((stepM a1_0 f e1_).map Update.cells))), (76, vi (((stepM a1_0 f e1_).length : Nat) : Int)), (77, vi ((k2_ : Nat) : Int)), (78, vb (decide (((k2_ : Nat) : Int) < (((stepM a1_0 f e1_).length : Nat) : Int))))] [(1, .box 28 (avs (Firmware.cells f)))] 3 ?_
        refine AWp.seq ?_
        refine AWp.cnd (decide (((k2_ : Nat) : Int) < (((stepM a1_0 f e1_).length : Nat) : Int))) (fun h19 => ?_) (fun h19 => ?_)
        ·
         have h19' := of_decide_eq_true h19
         refine AWp.skip ?_
         refine AWp.seq ?_
         refine AWp.block ?_
         obtain ⟨e2_, he2_⟩ := getEx (l := stepM a1_0 f e1_) (j := k2_) (by omega)
         refine AWp.hz [.run 1, .idx Update.cells (stepM a1_0 f e1_) 6 k2_ e2_ he2_, .run 4] 163 [(5, .ptr 1 0), (9, .rv (.sl 6 (((newM h f v).1).map Update.cells))), (11, .rv (.sl 6 (a1_0.map Update.cells))), (14, .rv (.sl 6 ((stepM a1_0 f e1_).map Update.cells))), (15, vi ((k2_ : Nat) : Int)), (16, .ptr 3 0), (55, .rv (.sl 5 (os.map Op51.cells))), (56, vi ((os.length : Nat) : Int)), (57, vi ((k1_ : Nat) : Int)), (75, .rv (.sl 6 ((stepM a1_0 f e1_).map Update.cells))), (76, vi (((stepM a1_0 f e1_).length : Nat) : Int)), (77, vi ((k2_ : Nat) : Int))] [(3, .box 54 (avs (Update.cells e2_))), (1, .box 28 (avs (Firmware.cells f)))] 4 ?_
         refine AWp.seq ?_
         obtain ⟨e3_, he3_⟩ := getEx (l := (newM h f v).1) (j := k2_) (by omega)
         refine AWp.dz [.ptr 3 0, vi e2_.dev, .rv (.sl 6 (((newM h f v).1).map Update.cells)), vi ((k2_ : Nat) : Int), .rv (.ptr (Update.cells e3_)), .rv (.ptr (Update.cells e3_)), vi e3_.dev, vb (e2_.dev != e3_.dev)] 163 [(5, .ptr 1 0), (9, .rv (.sl 6 (((newM h f v).1).map Update.cells))), (11, .rv (.sl 6 (a1_0.map Update.cells))), (14, .rv (.sl 6 ((stepM a1_0 f e1_).map Update.cells))), (15, vi ((k2_ : Nat) : Int)), (16, .ptr 3 0), (55, .rv (.sl 5 (os.map Op51.cells))), (56, vi ((os.length : Nat) : Int)), (57, vi ((k1_ : Nat) : Int)), (75, .rv (.sl 6 ((stepM a1_0 f e1_).map Update.cells))), (76, vi (((stepM a1_0 f e1_).length : Nat) : Int)), (77, vi ((k2_ : Nat) : Int)), (89, vb (e2_.dev != e3_.dev))] [(3, .box 54 (avs (Update.cells e2_))), (1, .box 28 (avs (Firmware.cells f)))] 4 ?_ ?_
         ·
          refine DSteps.cons (DStep.va) ?_
          refine DSteps.cons (DStep.va) ?_
          refine DSteps.cons (DStep.va) ?_
          refine DSteps.cons (DStep.va) ?_
          refine DSteps.cons (DStep.vs (by kernel_rfl) (R_indexAddrM Update.cells ((newM h f v).1) 6 k2_ rfl (by kernel_rfl) (by kernel_rfl) (by kernel_rfl) he3_)) ?_
          refine DSteps.cons (DStep.va) ?_
          refine DSteps.cons (DStep.va) ?_
          refine DSteps.cons (DStep.va) ?_
          exact DSteps.nl
         refine AWp.cnd ((e2_.dev != e3_.dev)) (fun h20 => ?_) (fun h20 => ?_)
         ·
          refine AWp.hz [.run 1] 163 [(8, vb false)] [] 4 ?_
          refine AWp.ret ?_
          have hL2_ : lWavesM_L2 h f v os a1_0 e1_ = some false := scanN_some hs2_ (by omega) (by unfold lWavesM_B2; (try simp only [he1_]); (try simp only [he2_]); (try simp only [he3_]); (try rw [h19]); (try rw [h20]); first | done | kernel_rfl)
          have hL1_ : (lWavesM_L1 h f v os ((newM h f v).1)) = .inl false := loopS_ret hs1_ (by omega) (by unfold lWavesM_B1; (try dsimp only); (try simp only [he1_]); (try simp only [he2_]); (try simp only [he3_]); (try rw [h12]); (try rw [h14]); (try rw [h17]); (try rw [h19]); (try rw [h20]); (try rw [hL2_]); first | done | kernel_rfl)
          exact leafR (r := vb false) (by show (vb false : AV) = vb (lWavesM h f v os); unfold lWavesM; (try rw [h7]); (try rw [h8]); (try rw [hL1_]); (try dsimp only); first | done | kernel_rfl)
         ·
          refine AWp.skip ?_
          refine AWp.seq ?_
          refine AWp.rg ?_
          refine AOps.hg [.run 4] ((e2_.status != 0)) 163 (fun b_ => [(5, .ptr 1 0), (9, .rv (.sl 6 (((newM h f v).1).map Update.cells))), (11, .rv (.sl 6 (a1_0.map Update.cells))), (14, .rv (.sl 6 ((stepM a1_0 f e1_).map Update.cells))), (15, vi ((k2_ : Nat) : Int)), (16, .ptr 3 0), (55, .rv (.sl 5 (os.map Op51.cells))), (56, vi ((os.length : Nat) : Int)), (57, vi ((k1_ : Nat) : Int)), (75, .rv (.sl 6 ((stepM a1_0 f e1_).map Update.cells))), (76, vi (((stepM a1_0 f e1_).length : Nat) : Int)), (77, vi ((k2_ : Nat) : Int)), (93, vb b_)]) [(3, .box 54 (avs (Update.cells e2_))), (1, .box 28 (avs (Firmware.cells f)))] 4 (fun hg21 => ?_) (fun hg21 => ?_)
          ·
           obtain ⟨e4_, he4_⟩ := getEx (l := a1_0) (j := k2_) (by omega)
           refine AOps.hg [.run 2, .idx Update.cells a1_0 6 k2_ e4_ he4_, .run 5] ((e4_.status == 0)) 163 (fun b_ => [(5, .ptr 1 0), (9, .rv (.sl 6 (((newM h f v).1).map Update.cells))), (11, .rv (.sl 6 (a1_0.map Update.cells))), (14, .rv (.sl 6 ((stepM a1_0 f e1_).map Update.cells))), (15, vi ((k2_ : Nat) : Int)), (16, .ptr 3 0), (55, .rv (.sl 5 (os.map Op51.cells))), (56, vi ((os.length : Nat) : Int)), (57, vi ((k1_ : Nat) : Int)), (75, .rv (.sl 6 ((stepM a1_0 f e1_).map Update.cells))), (76, vi (((stepM a1_0 f e1_).length : Nat) : Int)), (77, vi ((k2_ : Nat) : Int)), (101, vb b_)]) [(3, .box 54 (avs (Update.cells e2_))), (1, .box 28 (avs (Firmware.cells f)))] 4 (fun hg22 => ?_) (fun hg22 => ?_)
           ·
            refine AOps.he [.run 1, .call 16 [.rv (.sl 6 (a1_0.map Update.cells))] (vb (stoppedM a1_0)) [] 0 (stoppedM_ok a1_0), .run 1] 163 [(5, .ptr 1 0), (9, .rv (.sl 6 (((newM h f v).1).map Update.cells))), (11, .rv (.sl 6 (a1_0.map Update.cells))), (14, .rv (.sl 6 ((stepM a1_0 f e1_).map Update.cells))), (15, vi ((k2_ : Nat) : Int)), (16, .ptr 3 0), (55, .rv (.sl 5 (os.map Op51.cells))), (56, vi ((os.length : Nat) : Int)), (57, vi ((k1_ : Nat) : Int)), (75, .rv (.sl 6 ((stepM a1_0 f e1_).map Update.cells))), (76, vi (((stepM a1_0 f e1_).length : Nat) : Int)), (77, vi ((k2_ : Nat) : Int)), (104, vb (stoppedM a1_0))] [(3, .box 54 (avs (Update.cells e2_))), (1, .box 28 (avs (Firmware.cells f)))] 4 ?_
            refine AWp.cnd (stoppedM a1_0) (fun h23 => ?_) (fun h23 => ?_)
            ·
             refine AWp.hz [.run 1] 163 [(8, vb false)] [] 4 ?_
             refine AWp.ret ?_
             have hL2_ : lWavesM_L2 h f v os a1_0 e1_ = some false := scanN_some hs2_ (by omega) (by unfold lWavesM_B2; (try simp only [he1_]); (try simp only [he2_]); (try simp only [he3_]); (try simp only [he4_]); (try rw [h19]); (try rw [h20]); (try rw [hg21]); (try rw [hg22]); (try rw [h23]); first | done | kernel_rfl)
             have hL1_ : (lWavesM_L1 h f v os ((newM h f v).1)) = .inl false := loopS_ret hs1_ (by omega) (by unfold lWavesM_B1; (try dsimp only); (try simp only [he1_]); (try simp only [he2_]); (try simp only [he3_]); (try simp only [he4_]); (try rw [h12]); (try rw [h14]); (try rw [h17]); (try rw [h19]); (try rw [h20]); (try rw [hg21]); (try rw [hg22]); (try rw [h23]); (try rw [hL2_]); first | done | kernel_rfl)
             exact leafR (r := vb false) (by show (vb false : AV) = vb (lWavesM h f v os); unfold lWavesM; (try rw [h7]); (try rw [h8]); (try rw [hL1_]); (try dsimp only); first | done | kernel_rfl)
            ·
             refine AWp.skip ?_
             refine AWp.hz [.run 2, .idx Update.cells ((newM h f v).1) 6 k2_ e3_ he3_, .run 3] 163 [(5, .ptr 1 0), (9, .rv (.sl 6 (((newM h f v).1).map Update.cells))), (11, .rv (.sl 6 (a1_0.map Update.cells))), (14, .rv (.sl 6 ((stepM a1_0 f e1_).map Update.cells))), (15, vi ((k2_ : Nat) : Int)), (16, .ptr 3 0), (17, vi e3_.version), (55, .rv (.sl 5 (os.map Op51.cells))), (56, vi ((os.length : Nat) : Int)), (57, vi ((k1_ : Nat) : Int)), (75, .rv (.sl 6 ((stepM a1_0 f e1_).map Update.cells))), (76, vi (((stepM a1_0 f e1_).length : Nat) : Int)), (77, vi ((k2_ : Nat) : Int))] [(3, .box 54 (avs (Update.cells e2_))), (1, .box 28 (avs (Firmware.cells f)))] 4 ?_
             refine AWp.join (Z 163 [(5, .ptr 1 0), (9, .rv (.sl 6 (((newM h f v).1).map Update.cells))), (11, .rv (.sl 6 (a1_0.map Update.cells))), (14, .rv (.sl 6 ((stepM a1_0 f e1_).map Update.cells))), (15, vi ((k2_ : Nat) : Int)), (16, .ptr 3 0), (17, vi (bif ((e2_.status == 3) || (e2_.status == 4)) then f.version else e3_.version)), (55, .rv (.sl 5 (os.map Op51.cells))), (56, vi ((os.length : Nat) : Int)), (57, vi ((k1_ : Nat) : Int)), (75, .rv (.sl 6 ((stepM a1_0 f e1_).map Update.cells))), (76, vi (((stepM a1_0 f e1_).length : Nat) : Int)), (77, vi ((k2_ : Nat) : Int))] [(3, .box 54 (avs (Update.cells e2_))), (1, .box 28 (avs (Firmware.cells f)))] 4) ?_ ?_
             ·
              refine AWp.join (Z 163 [(5, .ptr 1 0), (9, .rv (.sl 6 (((newM h f v).1).map Update.cells))), (11, .rv (.sl 6 (a1_0.map Update.cells))), (14, .rv (.sl 6 ((stepM a1_0 f e1_).map Update.cells))), (15, vi ((k2_ : Nat) : Int)), (16, .ptr 3 0), (17, vi e3_.version), (55, .rv (.sl 5 (os.map Op51.cells))), (56, vi ((os.length : Nat) : Int)), (57, vi ((k1_ : Nat) : Int)), (75, .rv (.sl 6 ((stepM a1_0 f e1_).map Update.cells))), (76, vi (((stepM a1_0 f e1_).length : Nat) : Int)), (77, vi ((k2_ : Nat) : Int)), (117, vb ((e2_.status == 3) || (e2_.status == 4)))] [(3, .box 54 (avs (Update.cells e2_))), (1, .box 28 (avs (Firmware.cells f)))] 4) ?_ ?_
              ·
               refine AWp.region ?_
               refine AOps.hg [.run 4] ((e2_.status == 3)) 163 (fun b_ => [(5, .ptr 1 0), (9, .rv (.sl 6 (((newM h f v).1).map Update.cells))), (11, .rv (.sl 6 (a1_0.map Update.cells))), (14, .rv (.sl 6 ((stepM a1_0 f e1_).map Update.cells))), (15, vi ((k2_ : Nat) : Int)), (16, .ptr 3 0), (17, vi e3_.version), (55, .rv (.sl 5 (os.map Op51.cells))), (56, vi ((os.length : Nat) : Int)), (57, vi ((k1_ : Nat) : Int)), (75, .rv (.sl 6 ((stepM a1_0 f e1_).map Update.cells))), (76, vi (((stepM a1_0 f e1_).length : Nat) : Int)), (77, vi ((k2_ : Nat) : Int)), (113, vb b_)]) [(3, .box 54 (avs (Update.cells e2_))), (1, .box 28 (avs (Firmware.cells f)))] 4 (fun hg24 => ?_) (fun hg24 => ?_)
               ·
                refine AOps.he [.run 4] 163 [(5, .ptr 1 0), (9, .rv (.sl 6 (((newM h f v).1).map Update.cells))), (11, .rv (.sl 6 (a1_0.map Update.cells))), (14, .rv (.sl 6 ((stepM a1_0 f e1_).map Update.cells))), (15, vi ((k2_ : Nat) : Int)), (16, .ptr 3 0), (17, vi e3_.version), (55, .rv (.sl 5 (os.map Op51.cells))), (56, vi ((os.length : Nat) : Int)), (57, vi ((k1_ : Nat) : Int)), (75, .rv (.sl 6 ((stepM a1_0 f e1_).map Update.cells))), (76, vi (((stepM a1_0 f e1_).length : Nat) : Int)), (77, vi ((k2_ : Nat) : Int)), (117, vb true)] [(3, .box 54 (avs (Update.cells e2_))), (1, .box 28 (avs (Firmware.cells f)))] 4 ?_
                exact leZ (by rw [hg24]; first | done | kernel_rfl)
               ·
                refine AOps.he [.run 4] 163 [(5, .ptr 1 0), (9, .rv (.sl 6 (((newM h f v).1).map Update.cells))), (11, .rv (.sl 6 (a1_0.map Update.cells))), (14, .rv (.sl 6 ((stepM a1_0 f e1_).map Update.cells))), (15, vi ((k2_ : Nat) : Int)), (16, .ptr 3 0), (17, vi e3_.version), (55, .rv (.sl 5 (os.map Op51.cells))), (56, vi ((os.length : Nat) : Int)), (57, vi ((k1_ : Nat) : Int)), (75, .rv (.sl 6 ((stepM a1_0 f e1_).map Update.cells))), (76, vi (((stepM a1_0 f e1_).length : Nat) : Int)), (77, vi ((k2_ : Nat) : Int)), (117, vb (e2_.status == 4))] [(3, .box 54 (avs (Update.cells e2_))), (1, .box 28 (avs (Firmware.cells f)))] 4 ?_
                exact leZ (by rw [hg24]; first | done | kernel_rfl)
              ·
               refine AWp.cnd (((e2_.status == 3) || (e2_.status == 4))) (fun h25 => ?_) (fun h25 => ?_)
               ·
                refine AWp.he [.run 3] 163 [(5, .ptr 1 0), (9, .rv (.sl 6 (((newM h f v).1).map Update.cells))), (11, .rv (.sl 6 (a1_0.map Update.cells))), (14, .rv (.sl 6 ((stepM a1_0 f e1_).map Update.cells))), (15, vi ((k2_ : Nat) : Int)), (16, .ptr 3 0), (17, vi f.version), (55, .rv (.sl 5 (os.map Op51.cells))), (56, vi ((os.length : Nat) : Int)), (57, vi ((k1_ : Nat) : Int)), (75, .rv (.sl 6 ((stepM a1_0 f e1_).map Update.cells))), (76, vi (((stepM a1_0 f e1_).length : Nat) : Int)), (77, vi ((k2_ : Nat) : Int))] [(3, .box 54 (avs (Update.cells e2_))), (1, .box 28 (avs (Firmware.cells f)))] 4 ?_
                exact leZ (by rw [h25]; first | done | kernel_rfl)
               ·
                have h25l := or_fl h25
                have h25r := or_fr h25
                refine AWp.skip ?_
                exact leZ (by rw [h25]; first | done | kernel_rfl)
             ·
              refine AWp.seq ?_
              refine AWp.join (Z 163 [(5, .ptr 1 0), (9, .rv (.sl 6 (((newM h f v).1).map Update.cells))), (11, .rv (.sl 6 (a1_0.map Update.cells))), (14, .rv (.sl 6 ((stepM a1_0 f e1_).map Update.cells))), (15, vi ((k2_ : Nat) : Int)), (16, .ptr 3 0), (55, .rv (.sl 5 (os.map Op51.cells))), (56, vi ((os.length : Nat) : Int)), (57, vi ((k1_ : Nat) : Int)), (75, .rv (.sl 6 ((stepM a1_0 f e1_).map Update.cells))), (76, vi (((stepM a1_0 f e1_).length : Nat) : Int)), (77, vi ((k2_ : Nat) : Int)), (133, vb (((e2_.version != (bif ((e2_.status == 3) || (e2_.status == 4)) then f.version else e3_.version)) || decide (e2_.status < 0)) || decide (e2_.status > 5)))] [(3, .box 54 (avs (Update.cells e2_))), (1, .box 28 (avs (Firmware.cells f)))] 4) ?_ ?_
              ·
               refine AWp.region ?_
               refine AOps.hg [.run 5] ((e2_.version != (bif ((e2_.status == 3) || (e2_.status == 4)) then f.version else e3_.version))) 163 (fun b_ => [(5, .ptr 1 0), (9, .rv (.sl 6 (((newM h f v).1).map Update.cells))), (11, .rv (.sl 6 (a1_0.map Update.cells))), (14, .rv (.sl 6 ((stepM a1_0 f e1_).map Update.cells))), (15, vi ((k2_ : Nat) : Int)), (16, .ptr 3 0), (55, .rv (.sl 5 (os.map Op51.cells))), (56, vi ((os.length : Nat) : Int)), (57, vi ((k1_ : Nat) : Int)), (75, .rv (.sl 6 ((stepM a1_0 f e1_).map Update.cells))), (76, vi (((stepM a1_0 f e1_).length : Nat) : Int)), (77, vi ((k2_ : Nat) : Int)), (124, vb b_)]) [(3, .box 54 (avs (Update.cells e2_))), (1, .box 28 (avs (Firmware.cells f)))] 4 (fun hg26 => ?_) (fun hg26 => ?_)
               ·
                refine AOps.he [.run 9] 163 [(5, .ptr 1 0), (9, .rv (.sl 6 (((newM h f v).1).map Update.cells))), (11, .rv (.sl 6 (a1_0.map Update.cells))), (14, .rv (.sl 6 ((stepM a1_0 f e1_).map Update.cells))), (15, vi ((k2_ : Nat) : Int)), (16, .ptr 3 0), (55, .rv (.sl 5 (os.map Op51.cells))), (56, vi ((os.length : Nat) : Int)), (57, vi ((k1_ : Nat) : Int)), (75, .rv (.sl 6 ((stepM a1_0 f e1_).map Update.cells))), (76, vi (((stepM a1_0 f e1_).length : Nat) : Int)), (77, vi ((k2_ : Nat) : Int)), (133, vb true)] [(3, .box 54 (avs (Update.cells e2_))), (1, .box 28 (avs (Firmware.cells f)))] 4 ?_
                exact leZ (by rw [hg26]; first | done | kernel_rfl)
               ·
                refine AOps.hg [.run 5] (decide (e2_.status < 0)) 163 (fun b_ => [(5, .ptr 1 0), (9, .rv (.sl 6 (((newM h f v).1).map Update.cells))), (11, .rv (.sl 6 (a1_0.map Update.cells))), (14, .rv (.sl 6 ((stepM a1_0 f e1_).map Update.cells))), (15, vi ((k2_ : Nat) : Int)), (16, .ptr 3 0), (55, .rv (.sl 5 (os.map Op51.cells))), (56, vi ((os.length : Nat) : Int)), (57, vi ((k1_ : Nat) : Int)), (75, .rv (.sl 6 ((stepM a1_0 f e1_).map Update.cells))), (76, vi (((stepM a1_0 f e1_).length : Nat) : Int)), (77, vi ((k2_ : Nat) : Int)), (129, vb b_)]) [(3, .box 54 (avs (Update.cells e2_))), (1, .box 28 (avs (Firmware.cells f)))] 4 (fun hg27 => ?_) (fun hg27 => ?_)
                ·
                 have hg27' := of_decide_eq_true hg27
                 refine AOps.he [.run 4] 163 [(5, .ptr 1 0), (9, .rv (.sl 6 (((newM h f v).1).map Update.cells))), (11, .rv (.sl 6 (a1_0.map Update.cells))), (14, .rv (.sl 6 ((stepM a1_0 f e1_).map Update.cells))), (15, vi ((k2_ : Nat) : Int)), (16, .ptr 3 0), (55, .rv (.sl 5 (os.map Op51.cells))), (56, vi ((os.length : Nat) : Int)), (57, vi ((k1_ : Nat) : Int)), (75, .rv (.sl 6 ((stepM a1_0 f e1_).map Update.cells))), (76, vi (((stepM a1_0 f e1_).length : Nat) : Int)), (77, vi ((k2_ : Nat) : Int)), (133, vb true)] [(3, .box 54 (avs (Update.cells e2_))), (1, .box 28 (avs (Firmware.cells f)))] 4 ?_
                 exact leZ (by rw [hg26, hg27]; first | done | kernel_rfl)
                ·
                 have hg27' := of_decide_eq_false hg27
                 refine AOps.he [.run 4] 163 [(5, .ptr 1 0), (9, .rv (.sl 6 (((newM h f v).1).map Update.cells))), (11, .rv (.sl 6 (a1_0.map Update.cells))), (14, .rv (.sl 6 ((stepM a1_0 f e1_).map Update.cells))), (15, vi ((k2_ : Nat) : Int)), (16, .ptr 3 0), (55, .rv (.sl 5 (os.map Op51.cells))), (56, vi ((os.length : Nat) : Int)), (57, vi ((k1_ : Nat) : Int)), (75, .rv (.sl 6 ((stepM a1_0 f e1_).map Update.cells))), (76, vi (((stepM a1_0 f e1_).length : Nat) : Int)), (77, vi ((k2_ : Nat) : Int)), (133, vb (decide (e2_.status > 5)))] [(3, .box 54 (avs (Update.cells e2_))), (1, .box 28 (avs (Firmware.cells f)))] 4 ?_
                 exact leZ (by rw [hg26, hg27]; first | done | kernel_rfl)
              ·
               refine AWp.cnd ((((e2_.version != (bif ((e2_.status == 3) || (e2_.status == 4)) then f.version else e3_.version)) || decide (e2_.status < 0)) || decide (e2_.status > 5))) (fun h28 => ?_) (fun h28 => ?_)
               ·
                refine AWp.hz [.run 1] 163 [(8, vb false)] [] 4 ?_
                refine AWp.ret ?_
                have hL2_ : lWavesM_L2 h f v os a1_0 e1_ = some false := scanN_some hs2_ (by omega) (by unfold lWavesM_B2; (try simp only [he1_]); (try simp only [he2_]); (try simp only [he3_]); (try simp only [he4_]); (try rw [h19]); (try rw [h20]); (try rw [hg21]); (try rw [hg22]); (try rw [h23]); (try rw [h28]); first | done | kernel_rfl)
                have hL1_ : (lWavesM_L1 h f v os ((newM h f v).1)) = .inl false := loopS_ret hs1_ (by omega) (by unfold lWavesM_B1; (try dsimp only); (try simp only [he1_]); (try simp only [he2_]); (try simp only [he3_]); (try simp only [he4_]); (try rw [h12]); (try rw [h14]); (try rw [h17]); (try rw [h19]); (try rw [h20]); (try rw [hg21]); (try rw [hg22]); (try rw [h23]); (try rw [h28]); (try rw [hL2_]); first | done | kernel_rfl)
                exact leafR (r := vb false) (by show (vb false : AV) = vb (lWavesM h f v os); unfold lWavesM; (try rw [h7]); (try rw [h8]); (try rw [hL1_]); (try dsimp only); first | done | kernel_rfl)
               ·
                have h28l := or_fl h28
                have h28ll := or_fl h28l
                have h28lr := or_fr h28l
                have h28lr' := of_decide_eq_false h28lr
                have h28r := or_fr h28
                have h28r' := of_decide_eq_false h28r
                refine AWp.skip ?_
                refine AWp.seq ?_
                refine AWp.hz [.run 3] 163 [(5, .ptr 1 0), (9, .rv (.sl 6 (((newM h f v).1).map Update.cells))), (11, .rv (.sl 6 (a1_0.map Update.cells))), (14, .rv (.sl 6 ((stepM a1_0 f e1_).map Update.cells))), (15, vi ((k2_ : Nat) : Int)), (55, .rv (.sl 5 (os.map Op51.cells))), (56, vi ((os.length : Nat) : Int)), (57, vi ((k1_ : Nat) : Int)), (75, .rv (.sl 6 ((stepM a1_0 f e1_).map Update.cells))), (76, vi (((stepM a1_0 f e1_).length : Nat) : Int)), (77, vi ((k2_ : Nat) : Int)), (136, vb (e2_.status == 0))] [(1, .box 28 (avs (Firmware.cells f)))] 4 ?_
                refine AWp.cnd ((e2_.status == 0)) (fun h29 => ?_) (fun h29 => ?_)
                ·
                 refine AWp.exit ?_
                 refine AWp.he [.cast (vi (IntKind.i64.wrap (((k2_ : Nat) : Int) + 1))) (vi ((k2_ + 1 : Nat) : Int)) (congrArg vi (wrap_nat (by omega))), .run 1] 163 [(5, .ptr 1 0), (9, .rv (.sl 6 (((newM h f v).1).map Update.cells))), (11, .rv (.sl 6 (a1_0.map Update.cells))), (14, .rv (.sl 6 ((stepM a1_0 f e1_).map Update.cells))), (55, .rv (.sl 5 (os.map Op51.cells))), (56, vi ((os.length : Nat) : Int)), (57, vi ((k1_ : Nat) : Int)), (75, .rv (.sl 6 ((stepM a1_0 f e1_).map Update.cells))), (76, vi (((stepM a1_0 f e1_).length : Nat) : Int)), (77, vi ((k2_ + 1 : Nat) : Int))] [(1, .box 28 (avs (Firmware.cells f)))] 4 ?_
                 exact ⟨k2_ + 1, ⟨by omega, scanN_none hs2_ (by omega) (by unfold lWavesM_B2; (try simp only [he1_]); (try simp only [he2_]); (try simp only [he3_]); (try simp only [he4_]); (try rw [h19]); (try rw [h20]); (try rw [hg21]); (try rw [hg22]); (try rw [h23]); (try rw [h28]); (try rw [h29]); first | done | kernel_rfl)⟩, by omega, leG⟩
                ·
                 refine AWp.skip ?_
                 refine AWp.hzl [.run 2, .take Update.cells (stepM a1_0 f e1_) 6 k2_ (by omega), .len Update.cells ((stepM a1_0 f e1_).take k2_) 6, .run 1] 163 [(5, .ptr 1 0), (9, .rv (.sl 6 (((newM h f v).1).map Update.cells))), (11, .rv (.sl 6 (a1_0.map Update.cells))), (14, .rv (.sl 6 ((stepM a1_0 f e1_).map Update.cells))), (15, vi ((k2_ : Nat) : Int)), (55, .rv (.sl 5 (os.map Op51.cells))), (56, vi ((os.length : Nat) : Int)), (57, vi ((k1_ : Nat) : Int)), (75, .rv (.sl 6 ((stepM a1_0 f e1_).map Update.cells))), (76, vi (((stepM a1_0 f e1_).length : Nat) : Int)), (77, vi ((k2_ : Nat) : Int)), (140, vi ((((stepM a1_0 f e1_).take k2_).length : Nat) : Int)), (141, vi 0)] [(1, .box 28 (avs (Firmware.cells f)))] 4 (fun hl => ?_)
                 obtain ⟨hn30, -⟩ := hl
                 refine AWp.block ?_
                 refine AWp.loop (ι := Nat) (fun k3_ => Z 163 [(5, .ptr 1 0), (9, .rv (.sl 6 (((newM h f v).1).map Update.cells))), (11, .rv (.sl 6 (a1_0.map Update.cells))), (14, .rv (.sl 6 ((stepM a1_0 f e1_).map Update.cells))), (15, vi ((k2_ : Nat) : Int)), (55, .rv (.sl 5 (os.map Op51.cells))), (56, vi ((os.length : Nat) : Int)), (57, vi ((k1_ : Nat) : Int)), (75, .rv (.sl 6 ((stepM a1_0 f e1_).map Update.cells))), (76, vi (((stepM a1_0 f e1_).length : Nat) : Int)), (77, vi ((k2_ : Nat) : Int)), (140, vi ((((stepM a1_0 f e1_).take k2_).length : Nat) : Int)), (141, vi ((k3_ : Nat) : Int))] [(1, .box 28 (avs (Firmware.cells f)))] 4) (fun k3_ => k3_ ≤ (((stepM a1_0 f e1_).take k2_).length) ∧ lWavesM_L3 h f v os a1_0 k2_ e1_ = scanN (lWavesM_B3 h f v os a1_0 k2_ e1_) k3_ ((((stepM a1_0 f e1_).take k2_).length) - k3_)) (fun k3_ => (((stepM a1_0 f e1_).take k2_).length) - k3_) 0 leZ ⟨Nat.zero_le _, rfl⟩ ?_
                 intro k3_ ⟨hk3_, hs3_⟩
                 refine AWp.hz [.run 1] 163 [(5, .ptr 1 0), (9, .rv (.sl 6 (((newM h f v).1).map Update.cells))), (11, .rv (.sl 6 (a1_0.map Update.cells))), (14, .rv (.sl 6 ((stepM a1_0 f e1_).map Update.cells))), (15, vi ((k2_ : Nat) : Int)), (55, .rv (.sl 5 (os.map Op51.cells))), (56, vi ((os.length : Nat) : Int)), (57, vi ((k1_ : Nat) : Int)), (75, .rv (.sl 6 ((stepM a1_0 f e1_).map Update.cells))), (76, vi (((stepM a1_0 f e1_).length : Nat) : Int)), (77, vi ((k2_ : Nat) : Int)), (140, vi ((((stepM a1_0 f e1_).take k2_).length : Nat) : Int)), (141, vi ((k3_ : Nat) : Int)), (142, vb (decide (((k3_ : Nat) : Int) < ((((stepM a1_0 f e1_).take k2_).length : Nat) : Int))))] [(1, .box 28 (avs (Firmware.cells f)))] 4 ?_
                 refine AWp.seq ?_
                 refine AWp.cnd (decide (((k3_ : Nat) : Int) < ((((stepM a1_0 f e1_).take k2_).length : Nat) : Int))) (fun h31 => ?_) (fun h31 => ?_)
                 ·
                  have h31' := of_decide_eq_true h31
                  refine AWp.skip ?_
                  refine AWp.seq ?_
                  refine AWp.block ?_
                  refine AWp.hz [.run 2] 163 [(5, .ptr 1 0), (9, .rv (.sl 6 (((newM h f v).1).map Update.cells))), (11, .rv (.sl 6 (a1_0.map Update.cells))), (14, .rv (.sl 6 ((stepM a1_0 f e1_).map Update.cells))), (15, vi ((k2_ : Nat) : Int)), (18, vi ((k3_ : Nat) : Int)), (55, .rv (.sl 5 (os.map Op51.cells))), (56, vi ((os.length : Nat) : Int)), (57, vi ((k1_ : Nat) : Int)), (75, .rv (.sl 6 ((stepM a1_0 f e1_).map Update.cells))), (76, vi (((stepM a1_0 f e1_).length : Nat) : Int)), (77, vi ((k2_ : Nat) : Int)), (140, vi ((((stepM a1_0 f e1_).take k2_).length : Nat) : Int)), (141, vi ((k3_ : Nat) : Int))] [(1, .box 28 (avs (Firmware.cells f)))] 4 ?_
                  refine AWp.split (decide (ofM ((k3_ : Nat) : Int) < ofM ((k2_ : Nat) : Int))) (fun h32 => ?_) (fun h32 => ?_)
                  ·
                   have h32' := of_decide_eq_true h32
                   obtain ⟨e5_, he5_⟩ := getEx (l := stepM a1_0 f e1_) (j := k3_) (by first | omega | (simp only [List.length_take] at *; omega))
                   refine AWp.dz [vi ((k3_ : Nat) : Int), vi (ofM ((k3_ : Nat) : Int)), vi ((k2_ : Nat) : Int), vi (ofM ((k2_ : Nat) : Int)), vb true, vb true, .rv (.sl 6 ((stepM a1_0 f e1_).map Update.cells)), vi ((k3_ : Nat) : Int), .rv (.ptr (Update.cells e5_)), .agg (avs (Update.cells e5_)), .agg (avs (Firmware.cells f)), vb (rcompleteM e5_ f), vb (!(rcompleteM e5_ f)), vb (!(rcompleteM e5_ f))] 163 [(5, .ptr 1 0), (9, .rv (.sl 6 (((newM h f v).1).map Update.cells))), (11, .rv (.sl 6 (a1_0.map Update.cells))), (14, .rv (.sl 6 ((stepM a1_0 f e1_).map Update.cells))), (15, vi ((k2_ : Nat) : Int)), (55, .rv (.sl 5 (os.map Op51.cells))), (56, vi ((os.length : Nat) : Int)), (57, vi ((k1_ : Nat) : Int)), (75, .rv (.sl 6 ((stepM a1_0 f e1_).map Update.cells))), (76, vi (((stepM a1_0 f e1_).length : Nat) : Int)), (77, vi ((k2_ : Nat) : Int)), (140, vi ((((stepM a1_0 f e1_).take k2_).length : Nat) : Int)), (141, vi ((k3_ : Nat) : Int)), (157, vb (!(rcompleteM e5_ f)))] [(1, .box 28 (avs (Firmware.cells f)))] 4 ?_ ?_
                   ·
                    refine DSteps.cons (DStep.va) ?_
                    refine DSteps.cons (DStep.call rfl (by kernel_rfl) (by kernel_rfl) (by kernel_rfl) (args := [vi ((k3_ : Nat) : Int)]) (by kernel_rfl) (by kernel_rfl) (ofM_ok ((k3_ : Nat) : Int) (by first | (with_reducible first | assumption | exact home_dev (by assumption) | exact hv1_.2 | exact Good.len hv1_.2 | exact Good.fit hv1_.2) | omega | (have := hv1_.2.len; have := hv1_.1; have := stepM_len a1_0 f e1_; simp only [List.length_take] at *; omega))) (by kernel_rfl) (Nat.le_of_ble_eq_true (by kernel_rfl))) ?_
                    refine DSteps.cons (DStep.va) ?_
                    refine DSteps.cons (DStep.call rfl (by kernel_rfl) (by kernel_rfl) (by kernel_rfl) (args := [vi ((k2_ : Nat) : Int)]) (by kernel_rfl) (by kernel_rfl) (ofM_ok ((k2_ : Nat) : Int) (by first | (with_reducible first | assumption | exact home_dev (by assumption) | exact hv1_.2 | exact Good.len hv1_.2 | exact Good.fit hv1_.2) | omega | (have := hv1_.2.len; have := hv1_.1; have := stepM_len a1_0 f e1_; simp only [List.length_take] at *; omega))) (by kernel_rfl) (Nat.le_of_ble_eq_true (by kernel_rfl))) ?_
                    refine DSteps.cons ((DStep.val (v := vb (decide (ofM ((k3_ : Nat) : Int) < ofM ((k2_ : Nat) : Int)))) (by kernel_rfl) (by kernel_rfl)).cast (congrArg vb h32)) ?_
                    refine DSteps.cons (DStep.va) ?_
                    refine DSteps.cons (DStep.va) ?_
                    refine DSteps.cons (DStep.va) ?_
                    refine DSteps.cons (DStep.vs (by kernel_rfl) (R_indexAddrM Update.cells (stepM a1_0 f e1_) 6 k3_ rfl (by kernel_rfl) (by kernel_rfl) (by kernel_rfl) he5_)) ?_
                    refine DSteps.cons (DStep.va) ?_
                    refine DSteps.cons (DStep.va) ?_
                    refine DSteps.cons (DStep.call rfl (by kernel_rfl) (by kernel_rfl) (by kernel_rfl) (args := [.agg (avs (Update.cells e5_)), .agg (avs (Firmware.cells f))]) (by kernel_rfl) (by kernel_rfl) (rcompleteM_ok e5_ f) (by kernel_rfl) (Nat.le_of_ble_eq_true (by kernel_rfl))) ?_
                    refine DSteps.cons (DStep.va) ?_
                    refine DSteps.cons (DStep.va) ?_
                    exact DSteps.nl
                   refine AWp.cnd (!(rcompleteM e5_ f)) (fun h33 => ?_) (fun h33 => ?_)
                   ·
                    refine AWp.hz [.run 1] 163 [(8, vb false)] [] 4 ?_
                    refine AWp.ret ?_
                    have hL3_ : lWavesM_L3 h f v os a1_0 k2_ e1_ = some false := scanN_some hs3_ (by omega) (by unfold lWavesM_B3; (try simp only [he1_]); (try simp only [he2_]); (try simp only [he3_]); (try simp only [he4_]); (try simp only [he5_]); (try rw [h31]); (try rw [h32]); (try rw [h33]); first | done | kernel_rfl)
                    have hL2_ : lWavesM_L2 h f v os a1_0 e1_ = some false := scanN_some hs2_ (by omega) (by unfold lWavesM_B2; (try simp only [he1_]); (try simp only [he2_]); (try simp only [he3_]); (try simp only [he4_]); (try simp only [he5_]); (try rw [h19]); (try rw [h20]); (try rw [hg21]); (try rw [hg22]); (try rw [h23]); (try rw [h28]); (try rw [h29]); (try rw [h31]); (try rw [h32]); (try rw [h33]); (try rw [hL3_]); first | done | kernel_rfl)
                    have hL1_ : (lWavesM_L1 h f v os ((newM h f v).1)) = .inl false := loopS_ret hs1_ (by omega) (by unfold lWavesM_B1; (try dsimp only); (try simp only [he1_]); (try simp only [he2_]); (try simp only [he3_]); (try simp only [he4_]); (try simp only [he5_]); (try rw [h12]); (try rw [h14]); (try rw [h17]); (try rw [h19]); (try rw [h20]); (try rw [hg21]); (try rw [hg22]); (try rw [h23]); (try rw [h28]); (try rw [h29]); (try rw [h31]); (try rw [h32]); (try rw [h33]); (try rw [hL3_]); (try rw [hL2_]); first | done | kernel_rfl)
                    exact leafR (r := vb false) (by show (vb false : AV) = vb (lWavesM h f v os); unfold lWavesM; (try rw [h7]); (try rw [h8]); (try rw [hL1_]); (try dsimp only); first | done | kernel_rfl)
                   ·
                    refine AWp.skip ?_
                    refine AWp.he [.cast (vi (IntKind.i64.wrap (((k3_ : Nat) : Int) + 1))) (vi ((k3_ + 1 : Nat) : Int)) (congrArg vi (wrap_nat (by omega))), .run 1] 163 [(5, .ptr 1 0), (9, .rv (.sl 6 (((newM h f v).1).map Update.cells))), (11, .rv (.sl 6 (a1_0.map Update.cells))), (14, .rv (.sl 6 ((stepM a1_0 f e1_).map Update.cells))), (15, vi ((k2_ : Nat) : Int)), (55, .rv (.sl 5 (os.map Op51.cells))), (56, vi ((os.length : Nat) : Int)), (57, vi ((k1_ : Nat) : Int)), (75, .rv (.sl 6 ((stepM a1_0 f e1_).map Update.cells))), (76, vi (((stepM a1_0 f e1_).length : Nat) : Int)), (77, vi ((k2_ : Nat) : Int)), (140, vi ((((stepM a1_0 f e1_).take k2_).length : Nat) : Int)), (141, vi ((k3_ + 1 : Nat) : Int))] [(1, .box 28 (avs (Firmware.cells f)))] 4 ?_
                    exact ⟨k3_ + 1, ⟨by omega, scanN_none hs3_ (by omega) (by unfold lWavesM_B3; (try simp only [he1_]); (try simp only [he2_]); (try simp only [he3_]); (try simp only [he4_]); (try simp only [he5_]); (try rw [h31]); (try rw [h32]); (try rw [h33]); first | done | kernel_rfl)⟩, by omega, leG⟩
                  ·
                   have h32' := of_decide_eq_false h32
                   refine AWp.dz [vi ((k3_ : Nat) : Int), vi (ofM ((k3_ : Nat) : Int)), vi ((k2_ : Nat) : Int), vi (ofM ((k2_ : Nat) : Int)), vb false, vb false, .tuple [], .tuple [], .tuple [], .tuple [], .tuple [], .tuple [], .tuple [], vb false] 163 [(5, .ptr 1 0), (9, .rv (.sl 6 (((newM h f v).1).map Update.cells))), (11, .rv (.sl 6 (a1_0.map Update.cells))), (14, .rv (.sl 6 ((stepM a1_0 f e1_).map Update.cells))), (15, vi ((k2_ : Nat) : Int)), (55, .rv (.sl 5 (os.map Op51.cells))), (56, vi ((os.length : Nat) : Int)), (57, vi ((k1_ : Nat) : Int)), (75, .rv (.sl 6 ((stepM a1_0 f e1_).map Update.cells))), (76, vi (((stepM a1_0 f e1_).length : Nat) : Int)), (77, vi ((k2_ : Nat) : Int)), (140, vi ((((stepM a1_0 f e1_).take k2_).length : Nat) : Int)), (141, vi ((k3_ : Nat) : Int)), (157, vb false)] [(1, .box 28 (avs (Firmware.cells f)))] 4 ?_ ?_
                   ·
                    refine DSteps.cons (DStep.va) ?_
                    refine DSteps.cons (DStep.call rfl (by kernel_rfl) (by kernel_rfl) (by kernel_rfl) (args := [vi ((k3_ : Nat) : Int)]) (by kernel_rfl) (by kernel_rfl) (ofM_ok ((k3_ : Nat) : Int) (by first | (with_reducible first | assumption | exact home_dev (by assumption) | exact hv1_.2 | exact Good.len hv1_.2 | exact Good.fit hv1_.2) | omega | (have := hv1_.2.len; have := hv1_.1; have := stepM_len a1_0 f e1_; simp only [List.length_take] at *; omega))) (by kernel_rfl) (Nat.le_of_ble_eq_true (by kernel_rfl))) ?_
                    refine DSteps.cons (DStep.va) ?_
                    refine DSteps.cons (DStep.call rfl (by kernel_rfl) (by kernel_rfl) (by kernel_rfl) (args := [vi ((k2_ : Nat) : Int)]) (by kernel_rfl) (by kernel_rfl) (ofM_ok ((k2_ : Nat) : Int) (by first | (with_reducible first | assumption | exact home_dev (by assumption) | exact hv1_.2 | exact Good.len hv1_.2 | exact Good.fit hv1_.2) | omega | (have := hv1_.2.len; have := hv1_.1; have := stepM_len a1_0 f e1_; simp only [List.length_take] at *; omega))) (by kernel_rfl) (Nat.le_of_ble_eq_true (by kernel_rfl))) ?_
                    refine DSteps.cons ((DStep.val (v := vb (decide (ofM ((k3_ : Nat) : Int) < ofM ((k2_ : Nat) : Int)))) (by kernel_rfl) (by kernel_rfl)).cast (congrArg vb h32)) ?_
                    refine DSteps.cons (DStep.va) ?_
                    refine DSteps.cons (DStep.skip (by kernel_rfl)) ?_
                    refine DSteps.cons (DStep.skip (by kernel_rfl)) ?_
                    refine DSteps.cons (DStep.skip (by kernel_rfl)) ?_
                    refine DSteps.cons (DStep.skip (by kernel_rfl)) ?_
                    refine DSteps.cons (DStep.skip (by kernel_rfl)) ?_
                    refine DSteps.cons (DStep.skip (by kernel_rfl)) ?_
                    refine DSteps.cons (DStep.skip (by kernel_rfl)) ?_
                    refine DSteps.cons (DStep.va) ?_
                    exact DSteps.nl
                   refine AWp.cndF ?_
                   refine AWp.skip ?_
                   refine AWp.he [.cast (vi (IntKind.i64.wrap (((k3_ : Nat) : Int) + 1))) (vi ((k3_ + 1 : Nat) : Int)) (congrArg vi (wrap_nat (by omega))), .run 1] 163 [(5, .ptr 1 0), (9, .rv (.sl 6 (((newM h f v).1).map Update.cells))), (11, .rv (.sl 6 (a1_0.map Update.cells))), (14, .rv (.sl 6 ((stepM a1_0 f e1_).map Update.cells))), (15, vi ((k2_ : Nat) : Int)), (55, .rv (.sl 5 (os.map Op51.cells))), (56, vi ((os.length : Nat) : Int)), (57, vi ((k1_ : Nat) : Int)), (75, .rv (.sl 6 ((stepM a1_0 f e1_).map Update.cells))), (76, vi (((stepM a1_0 f e1_).length : Nat) : Int)), (77, vi ((k2_ : Nat) : Int)), (140, vi ((((stepM a1_0 f e1_).take k2_).length : Nat) : Int)), (141, vi ((k3_ + 1 : Nat) : Int))] [(1, .box 28 (avs (Firmware.cells f)))] 4 ?_
                   exact ⟨k3_ + 1, ⟨by omega, scanN_none hs3_ (by omega) (by unfold lWavesM_B3; (try simp only [he1_]); (try simp only [he2_]); (try simp only [he3_]); (try simp only [he4_]); (try rw [h31]); (try rw [h32]); first | done | kernel_rfl)⟩, by omega, leG⟩
                 ·
                  have h31' := of_decide_eq_false h31
                  refine AWp.exit ?_
                  have hL3_ : lWavesM_L3 h f v os a1_0 k2_ e1_ = none := scanN_end hs3_ (by omega)
                  refine AWp.he [.cast (vi (IntKind.i64.wrap (((k2_ : Nat) : Int) + 1))) (vi ((k2_ + 1 : Nat) : Int)) (congrArg vi (wrap_nat (by omega))), .run 1] 163 [(5, .ptr 1 0), (9, .rv (.sl 6 (((newM h f v).1).map Update.cells))), (11, .rv (.sl 6 (a1_0.map Update.cells))), (14, .rv (.sl 6 ((stepM a1_0 f e1_).map Update.cells))), (55, .rv (.sl 5 (os.map Op51.cells))), (56, vi ((os.length : Nat) : Int)), (57, vi ((k1_ : Nat) : Int)), (75, .rv (.sl 6 ((stepM a1_0 f e1_).map Update.cells))), (76, vi (((stepM a1_0 f e1_).length : Nat) : Int)), (77, vi ((k2_ + 1 : Nat) : Int))] [(1, .box 28 (avs (Firmware.cells f)))] 4 ?_
                  exact ⟨k2_ + 1, ⟨by omega, scanN_none hs2_ (by omega) (by unfold lWavesM_B2; (try simp only [he1_]); (try simp only [he2_]); (try simp only [he3_]); (try simp only [he4_]); (try rw [h19]); (try rw [h20]); (try rw [hg21]); (try rw [hg22]); (try rw [h23]); (try rw [h28]); (try rw [h29]); (try rw [hL3_]); first | done | kernel_rfl)⟩, by omega, leG⟩
           ·
            refine AOps.he [.run 3] 163 [(5, .ptr 1 0), (9, .rv (.sl 6 (((newM h f v).1).map Update.cells))), (11, .rv (.sl 6 (a1_0.map Update.cells))), (14, .rv (.sl 6 ((stepM a1_0 f e1_).map Update.cells))), (15, vi ((k2_ : Nat) : Int)), (16, .ptr 3 0), (55, .rv (.sl 5 (os.map Op51.cells))), (56, vi ((os.length : Nat) : Int)), (57, vi ((k1_ : Nat) : Int)), (75, .rv (.sl 6 ((stepM a1_0 f e1_).map Update.cells))), (76, vi (((stepM a1_0 f e1_).length : Nat) : Int)), (77, vi ((k2_ : Nat) : Int)), (104, vb false)] [(3, .box 54 (avs (Update.cells e2_))), (1, .box 28 (avs (Firmware.cells f)))] 4 ?_
            refine AWp.cndF ?_
            refine AWp.skip ?_
            refine AWp.hz [.run 2, .idx Update.cells ((newM h f v).1) 6 k2_ e3_ he3_, .run 3] 163 [(5, .ptr 1 0), (9, .rv (.sl 6 (((newM h f v).1).map Update.cells))), (11, .rv (.sl 6 (a1_0.map Update.cells))), (14, .rv (.sl 6 ((stepM a1_0 f e1_).map Update.cells))), (15, vi ((k2_ : Nat) : Int)), (16, .ptr 3 0), (17, vi e3_.version), (55, .rv (.sl 5 (os.map Op51.cells))), (56, vi ((os.length : Nat) : Int)), (57, vi ((k1_ : Nat) : Int)), (75, .rv (.sl 6 ((stepM a1_0 f e1_).map Update.cells))), (76, vi (((stepM a1_0 f e1_).length : Nat) : Int)), (77, vi ((k2_ : Nat) : Int))] [(3, .box 54 (avs (Update.cells e2_))), (1, .box 28 (avs (Firmware.cells f)))] 4 ?_
            refine AWp.join (Z 163 [(5, .ptr 1 0), (9, .rv (.sl 6 (((newM h f v).1).map Update.cells))), (11, .rv (.sl 6 (a1_0.map Update.cells))), (14, .rv (.sl 6 ((stepM a1_0 f e1_).map Update.cells))), (15, vi ((k2_ : Nat) : Int)), (16, .ptr 3 0), (17, vi (bif ((e2_.status == 3) || (e2_.status == 4)) then f.version else e3_.version)), (55, .rv (.sl 5 (os.map Op51.cells))), (56, vi ((os.length : Nat) : Int)), (57, vi ((k1_ : Nat) : Int)), (75, .rv (.sl 6 ((stepM a1_0 f e1_).map Update.cells))), (76, vi (((stepM a1_0 f e1_).length : Nat) : Int)), (77, vi ((k2_ : Nat) : Int))] [(3, .box 54 (avs (Update.cells e2_))), (1, .box 28 (avs (Firmware.cells f)))] 4) ?_ ?_
            ·
             refine AWp.join (Z 163 [(5, .ptr 1 0), (9, .rv (.sl 6 (((newM h f v).1).map Update.cells))), (11, .rv (.sl 6 (a1_0.map Update.cells))), (14, .rv (.sl 6 ((stepM a1_0 f e1_).map Update.cells))), (15, vi ((k2_ : Nat) : Int)), (16, .ptr 3 0), (17, vi e3_.version), (55, .rv (.sl 5 (os.map Op51.cells))), (56, vi ((os.length : Nat) : Int)), (57, vi ((k1_ : Nat) : Int)), (75, .rv (.sl 6 ((stepM a1_0 f e1_).map Update.cells))), (76, vi (((stepM a1_0 f e1_).length : Nat) : Int)), (77, vi ((k2_ : Nat) : Int)), (117, vb ((e2_.status == 3) || (e2_.status == 4)))] [(3, .box 54 (avs (Update.cells e2_))), (1, .box 28 (avs (Firmware.cells f)))] 4) ?_ ?_
             ·
              refine AWp.region ?_
              refine AOps.hg [.run 4] ((e2_.status == 3)) 163 (fun b_ => [(5, .ptr 1 0), (9, .rv (.sl 6 (((newM h f v).1).map Update.cells))), (11, .rv (.sl 6 (a1_0.map Update.cells))), (14, .rv (.sl 6 ((stepM a1_0 f e1_).map Update.cells))), (15, vi ((k2_ : Nat) : Int)), (16, .ptr 3 0), (17, vi e3_.version), (55, .rv (.sl 5 (os.map Op51.cells))), (56, vi ((os.length : Nat) : Int)), (57, vi ((k1_ : Nat) : Int)), (75, .rv (.sl 6 ((stepM a1_0 f e1_).map Update.cells))), (76, vi (((stepM a1_0 f e1_).length : Nat) : Int)), (77, vi ((k2_ : Nat) : Int)), (113, vb b_)]) [(3, .box 54 (avs (Update.cells e2_))), (1, .box 28 (avs (Firmware.cells f)))] 4 (fun hg34 => ?_) (fun hg34 => ?_)
              ·
               refine AOps.he [.run 4] 163 [(5, .ptr 1 0), (9, .rv (.sl 6 (((newM h f v).1).map Update.cells))), (11, .rv (.sl 6 (a1_0.map Update.cells))), (14, .rv (.sl 6 ((stepM a1_0 f e1_).map Update.cells))), (15, vi ((k2_ : Nat) : Int)), (16, .ptr 3 0), (17, vi e3_.version), (55, .rv (.sl 5 (os.map Op51.cells))), (56, vi ((os.length : Nat) : Int)), (57, vi ((k1_ : Nat) : Int)), (75, .rv (.sl 6 ((stepM a1_0 f e1_).map Update.cells))), (76, vi (((stepM a1_0 f e1_).length : Nat) : Int)), (77, vi ((k2_ : Nat) : Int)), (117, vb true)] [(3, .box 54 (avs (Update.cells e2_))), (1, .box 28 (avs (Firmware.cells f)))] 4 ?_
               exact leZ (by rw [hg34]; first | done | kernel_rfl)
              ·
               refine AOps.he [.run 4] 163 [(5, .ptr 1 0), (9, .rv (.sl 6 (((newM h f v).1).map Update.cells))), (11, .rv (.sl 6 (a1_0.map Update.cells))), (14, .rv (.sl 6 ((stepM a1_0 f e1_).map Update.cells))), (15, vi ((k2_ : Nat) : Int)), (16, .ptr 3 0), (17, vi e3_.version), (55, .rv (.sl 5 (os.map Op51.cells))), (56, vi ((os.length : Nat) : Int)), (57, vi ((k1_ : Nat) : Int)), (75, .rv (.sl 6 ((stepM a1_0 f e1_).map Update.cells))), (76, vi (((stepM a1_0 f e1_).length : Nat) : Int)), (77, vi ((k2_ : Nat) : Int)), (117, vb (e2_.status == 4))] [(3, .box 54 (avs (Update.cells e2_))), (1, .box 28 (avs (Firmware.cells f)))] 4 ?_
               exact leZ (by rw [hg34]; first | done | kernel_rfl)
             ·
              refine AWp.cnd (((e2_.status == 3) || (e2_.status == 4))) (fun h35 => ?_) (fun h35 => ?_)
              ·
               refine AWp.he [.run 3] 163 [(5, .ptr 1 0), (9, .rv (.sl 6 (((newM h f v).1).map Update.cells))), (11, .rv (.sl 6 (a1_0.map Update.cells))), (14, .rv (.sl 6 ((stepM a1_0 f e1_).map Update.cells))), (15, vi ((k2_ : Nat) : Int)), (16, .ptr 3 0), (17, vi f.version), (55, .rv (.sl 5 (os.map Op51.cells))), (56, vi ((os.length : Nat) : Int)), (57, vi ((k1_ : Nat) : Int)), (75, .rv (.sl 6 ((stepM a1_0 f e1_).map Update.cells))), (76, vi (((stepM a1_0 f e1_).length : Nat) : Int)), (77, vi ((k2_ : Nat) : Int))] [(3, .box 54 (avs (Update.cells e2_))), (1, .box 28 (avs (Firmware.cells f)))] 4 ?_
               exact leZ (by rw [h35]; first | done | kernel_rfl)
              ·
               have h35l := or_fl h35
               have h35r := or_fr h35
               refine AWp.skip ?_
               exact leZ (by rw [h35]; first | done | kernel_rfl)
            ·
             refine AWp.seq ?_
             refine AWp.join (Z 163 [(5, .ptr 1 0), (9, .rv (.sl 6 (((newM h f v).1).map Update.cells))), (11, .rv (.sl 6 (a1_0.map Update.cells))), (14, .rv (.sl 6 ((stepM a1_0 f e1_).map Update.cells))), (15, vi ((k2_ : Nat) : Int)), (16, .ptr 3 0), (55, .rv (.sl 5 (os.map Op51.cells))), (56, vi ((os.length : Nat) : Int)), (57, vi ((k1_ : Nat) : Int)), (75, .rv (.sl 6 ((stepM a1_0 f e1_).map Update.cells))), (76, vi (((stepM a1_0 f e1_).length : Nat) : Int)), (77, vi ((k2_ : Nat) : Int)), (133, vb (((e2_.version != (bif ((e2_.status == 3) || (e2_.status == 4)) then f.version else e3_.version)) || decide (e2_.status < 0)) || decide (e2_.status > 5)))] [(3, .box 54 (avs (Update.cells e2_))), (1, .box 28 (avs (Firmware.cells f)))] 4) ?_ ?_
             ·
              refine AWp.region ?_
              refine AOps.hg [.run 5] ((e2_.version != (bif ((e2_.status == 3) || (e2_.status == 4)) then f.version else e3_.version))) 163 (fun b_ => [(5, .ptr 1 0), (9, .rv (.sl 6 (((newM h f v).1).map Update.cells))), (11, .rv (.sl 6 (a1_0.map Update.cells))), (14, .rv (.sl 6 ((stepM a1_0 f e1_).map Update.cells))), (15, vi ((k2_ : Nat) : Int)), (16, .ptr 3 0), (55, .rv (.sl 5 (os.map Op51.cells))), (56, vi ((os.length : Nat) : Int)), (57, vi ((k1_ : Nat) : Int)), (75, .rv (.sl 6 ((stepM a1_0 f e1_).map Update.cells))), (76, vi (((stepM a1_0 f e1_).length : Nat) : Int)), (77, vi ((k2_ : Nat) : Int)), (124, vb b_)]) [(3, .box 54 (avs (Update.cells e2_))), (1, .box 28 (avs (Firmware.cells f)))] 4 (fun hg36 => ?_) (fun hg36 => ?_)
              ·
               refine AOps.he [.run 9] 163 [(5, .ptr 1 0), (9, .rv (.sl 6 (((newM h f v).1).map Update.cells))), (11, .rv (.sl 6 (a1_0.map Update.cells))), (14, .rv (.sl 6 ((stepM a1_0 f e1_).map Update.cells))), (15, vi ((k2_ : Nat) : Int)), (16, .ptr 3 0), (55, .rv (.sl 5 (os.map Op51.cells))), (56, vi ((os.length : Nat) : Int)), (57, vi ((k1_ : Nat) : Int)), (75, .rv (.sl 6 ((stepM a1_0 f e1_).map Update.cells))), (76, vi (((stepM a1_0 f e1_).length : Nat) : Int)), (77, vi ((k2_ : Nat) : Int)), (133, vb true)] [(3, .box 54 (avs (Update.cells e2_))), (1, .box 28 (avs (Firmware.cells f)))] 4 ?_
               exact leZ (by rw [hg36]; first | done | kernel_rfl)
              ·
               refine AOps.hg [.run 5] (decide (e2_.status < 0)) 163 (fun b_ => [(5, .ptr 1 0), (9, .rv (.sl 6 (((newM h f v).1).map Update.cells))), (11, .rv (.sl 6 (a1_0.map Update.cells))), (14, .rv (.sl 6 ((stepM a1_0 f e1_).map Update.cells))), (15, vi ((k2_ : Nat) : Int)), (16, .ptr 3 0), (55, .rv (.sl 5 (os.map Op51.cells))), (56, vi ((os.length : Nat) : Int)), (57, vi ((k1_ : Nat) : Int)), (75, .rv (.sl 6 ((stepM a1_0 f e1_).map Update.cells))), (76, vi (((stepM a1_0 f e1_).length : Nat) : Int)), (77, vi ((k2_ : Nat) : Int)), (129, vb b_)]) [(3, .box 54 (avs (Update.cells e2_))), (1, .box 28 (avs (Firmware.cells f)))] 4 (fun hg37 => ?_) (fun hg37 => ?_)
               ·
                have hg37' := of_decide_eq_true hg37
                refine AOps.he [.run 4] 163 [(5, .ptr 1 0), (9, .rv (.sl 6 (((newM h f v).1).map Update.cells))), (11, .rv (.sl 6 (a1_0.map Update.cells))), (14, .rv (.sl 6 ((stepM a1_0 f e1_).map Update.cells))), (15, vi ((k2_ : Nat) : Int)), (16, .ptr 3 0), (55, .rv (.sl 5 (os.map Op51.cells))), (56, vi ((os.length : Nat) : Int)), (57, vi ((k1_ : Nat) : Int)), (75, .rv (.sl 6 ((stepM a1_0 f e1_).map Update.cells))), (76, vi (((stepM a1_0 f e1_).length : Nat) : Int)), (77, vi ((k2_ : Nat) : Int)), (133, vb true)] [(3, .box 54 (avs (Update.cells e2_))), (1, .box 28 (avs (Firmware.cells f)))] 4 ?_
                exact leZ (by rw [hg36, hg37]; first | done | kernel_rfl)
               ·
                have hg37' := of_decide_eq_false hg37
                refine AOps.he [.run 4] 163 [(5, .ptr 1 0), (9, .rv (.sl 6 (((newM h f v).1).map Update.cells))), (11, .rv (.sl 6 (a1_0.map Update.cells))), (14, .rv (.sl 6 ((stepM a1_0 f e1_).map Update.cells))), (15, vi ((k2_ : Nat) : Int)), (16, .ptr 3 0), (55, .rv (.sl 5 (os.map Op51.cells))), (56, vi ((os.length : Nat) : Int)), (57, vi ((k1_ : Nat) : Int)), (75, .rv (.sl 6 ((stepM a1_0 f e1_).map Update.cells))), (76, vi (((stepM a1_0 f e1_).length : Nat) : Int)), (77, vi ((k2_ : Nat) : Int)), (133, vb (decide (e2_.status > 5)))] [(3, .box 54 (avs (Update.cells e2_))), (1, .box 28 (avs (Firmware.cells f)))] 4 ?_
                exact leZ (by rw [hg36, hg37]; first | done | kernel_rfl)
             ·
              refine AWp.cnd ((((e2_.version != (bif ((e2_.status == 3) || (e2_.status == 4)) then f.version else e3_.version)) || decide (e2_.status < 0)) || decide (e2_.status > 5))) (fun h38 => ?_) (fun h38 => ?_)
              ·
               refine AWp.hz [.run 1] 163 [(8, vb false)] [] 4 ?_
               refine AWp.ret ?_
               have hL2_ : lWavesM_L2 h f v os a1_0 e1_ = some false := scanN_some hs2_ (by omega) (by unfold lWavesM_B2; (try simp only [he1_]); (try simp only [he2_]); (try simp only [he3_]); (try simp only [he4_]); (try rw [h19]); (try rw [h20]); (try rw [hg21]); (try rw [hg22]); (try rw [h38]); first | done | kernel_rfl)
               have hL1_ : (lWavesM_L1 h f v os ((newM h f v).1)) = .inl false := loopS_ret hs1_ (by omega) (by unfold lWavesM_B1; (try dsimp only); (try simp only [he1_]); (try simp only [he2_]); (try simp only [he3_]); (try simp only [he4_]); (try rw [h12]); (try rw [h14]); (try rw [h17]); (try rw [h19]); (try rw [h20]); (try rw [hg21]); (try rw [hg22]); (try rw [h38]); (try rw [hL2_]); first | done | kernel_rfl)
               exact leafR (r := vb false) (by show (vb false : AV) = vb (lWavesM h f v os); unfold lWavesM; (try rw [h7]); (try rw [h8]); (try rw [hL1_]); (try dsimp only); first | done | kernel_rfl)
              ·
               have h38l := or_fl h38
               have h38ll := or_fl h38l
               have h38lr := or_fr h38l
               have h38lr' := of_decide_eq_false h38lr
               have h38r := or_fr h38
               have h38r' := of_decide_eq_false h38r
               refine AWp.skip ?_
               refine AWp.seq ?_
               refine AWp.hz [.run 3] 163 [(5, .ptr 1 0), (9, .rv (.sl 6 (((newM h f v).1).map Update.cells))), (11, .rv (.sl 6 (a1_0.map Update.cells))), (14, .rv (.sl 6 ((stepM a1_0 f e1_).map Update.cells))), (15, vi ((k2_ : Nat) : Int)), (55, .rv (.sl 5 (os.map Op51.cells))), (56, vi ((os.length : Nat) : Int)), (57, vi ((k1_ : Nat) : Int)), (75, .rv (.sl 6 ((stepM a1_0 f e1_).map Update.cells))), (76, vi (((stepM a1_0 f e1_).length : Nat) : Int)), (77, vi ((k2_ : Nat) : Int)), (136, vb (e2_.status == 0))] [(1, .box 28 (avs (Firmware.cells f)))] 4 ?_
               refine AWp.cnd ((e2_.status == 0)) (fun h39 => ?_) (fun h39 => ?_)
               ·
                refine AWp.exit ?_
                refine AWp.he [.cast (vi (IntKind.i64.wrap (((k2_ : Nat) : Int) + 1))) (vi ((k2_ + 1 : Nat) : Int)) (congrArg vi (wrap_nat (by omega))), .run 1] 163 [(5, .ptr 1 0), (9, .rv (.sl 6 (((newM h f v).1).map Update.cells))), (11, .rv (.sl 6 (a1_0.map Update.cells))), (14, .rv (.sl 6 ((stepM a1_0 f e1_).map Update.cells))), (55, .rv (.sl 5 (os.map Op51.cells))), (56, vi ((os.length : Nat) : Int)), (57, vi ((k1_ : Nat) : Int)), (75, .rv (.sl 6 ((stepM a1_0 f e1_).map Update.cells))), (76, vi (((stepM a1_0 f e1_).length : Nat) : Int)), (77, vi ((k2_ + 1 : Nat) : Int))] [(1, .box 28 (avs (Firmware.cells f)))] 4 ?_
                exact ⟨k2_ + 1, ⟨by omega, scanN_none hs2_ (by omega) (by unfold lWavesM_B2; (try simp only [he1_]); (try simp only [he2_]); (try simp only [he3_]); (try simp only [he4_]); (try rw [h19]); (try rw [h20]); (try rw [hg21]); (try rw [hg22]); (try rw [h38]); (try rw [h39]); first | done | kernel_rfl)⟩, by omega, leG⟩
               ·
                refine AWp.skip ?_
                refine AWp.hzl [.run 2, .take Update.cells (stepM a1_0 f e1_) 6 k2_ (by omega), .len Update.cells ((stepM a1_0 f e1_).take k2_) 6, .run 1] 163 [(5, .ptr 1 0), (9, .rv (.sl 6 (((newM h f v).1).map Update.cells))), (11, .rv (.sl 6 (a1_0.map Update.cells))), (14, .rv (.sl 6 ((stepM a1_0 f e1_).map Update.cells))), (15, vi ((k2_ : Nat) : Int)), (55, .rv (.sl 5 (os.map Op51.cells))), (56, vi ((os.length : Nat) : Int)), (57, vi ((k1_ : Nat) : Int)), (75, .rv (.sl 6 ((stepM a1_0 f e1_).map Update.cells))), (76, vi (((stepM a1_0 f e1_).length : Nat) : Int)), (77, vi ((k2_ : Nat) : Int)), (140, vi ((((stepM a1_0 f e1_).take k2_).length : Nat) : Int)), (141, vi 0)] [(1, .box 28 (avs (Firmware.cells f)))] 4 (fun hl => ?_)
                obtain ⟨hn40, -⟩ := hl
                refine AWp.block ?_
                refine AWp.loop (ι := Nat) (fun k3_ => Z 163 [(5, .ptr 1 0), (9, .rv (.sl 6 (((newM h f v).1).map Update.cells))), (11, .rv (.sl 6 (a1_0.map Update.cells))), (14, .rv (.sl 6 ((stepM a1_0 f e1_).map Update.cells))), (15, vi ((k2_ : Nat) : Int)), (55, .rv (.sl 5 (os.map Op51.cells))), (56, vi ((os.length : Nat) : Int)), (57, vi ((k1_ : Nat) : Int)), (75, .rv (.sl 6 ((stepM a1_0 f e1_).map Update.cells))), (76, vi (((stepM a1_0 f e1_).length : Nat) : Int)), (77, vi ((k2_ : Nat) : Int)), (140, vi ((((stepM a1_0 f e1_).take k2_).length : Nat) : Int)), (141, vi ((k3_ : Nat) : Int))] [(1, .box 28 (avs (Firmware.cells f)))] 4) (fun k3_ => k3_ ≤ (((stepM a1_0 f e1_).take k2_).length) ∧ lWavesM_L3 h f v os a1_0 k2_ e1_ = scanN (lWavesM_B3 h f v os a1_0 k2_ e1_) k3_ ((((stepM a1_0 f e1_).take k2_).length) - k3_)) (fun k3_ => (((stepM a1_0 f e1_).take k2_).length) - k3_) 0 leZ ⟨Nat.zero_le _, rfl⟩ ?_
                intro k3_ ⟨hk3_, hs3_⟩
                refine AWp.hz [.run 1] 163 [(5, .ptr 1 0), (9, .rv (.sl 6 (((newM h f v).1).map Update.cells))), (11, .rv (.sl 6 (a1_0.map Update.cells))), (14, .rv (.sl 6 ((stepM a1_0 f e1_).map Update.cells))), (15, vi ((k2_ : Nat) : Int)), (55, .rv (.sl 5 (os.map Op51.cells))), (56, vi ((os.length : Nat) : Int)), (57, vi ((k1_ : Nat) : Int)), (75, .rv (.sl 6 ((stepM a1_0 f e1_).map Update.cells))), (76, vi (((stepM a1_0 f e1_).length : Nat) : Int)), (77, vi ((k2_ : Nat) : Int)), (140, vi ((((stepM a1_0 f e1_).take k2_).length : Nat) : Int)), (141, vi ((k3_ : Nat) : Int)), (142, vb (decide (((k3_ : Nat) : Int) < ((((stepM a1_0 f e1_).take k2_).length : Nat) : Int))))] [(1, .box 28 (avs (Firmware.cells f)))] 4 ?_
                refine AWp.seq ?_
                refine AWp.cnd (decide (((k3_ : Nat) : Int) < ((((stepM a1_0 f e1_).take k2_).length : Nat) : Int))) (fun h41 => ?_) (fun h41 => ?_)
                ·
                 have h41' := of_decide_eq_true h41
                 refine AWp.skip ?_
                 refine AWp.seq ?_
                 refine AWp.block ?_
                 refine AWp.hz [.run 2] 163 [(5, .ptr 1 0), (9, .rv (.sl 6 (((newM h f v).1).map Update.cells))), (11, .rv (.sl 6 (a1_0.map Update.cells))), (14, .rv (.sl 6 ((stepM a1_0 f e1_).map Update.cells))), (15, vi ((k2_ : Nat) : Int)), (18, vi ((k3_ : Nat) : Int)), (55, .rv (.sl 5 (os.map Op51.cells))), (56, vi ((os.length : Nat) : Int)), (57, vi ((k1_ : Nat) : Int)), (75, .rv (.sl 6 ((stepM a1_0 f e1_).map Update.cells))), (76, vi (((stepM a1_0 f e1_).length : Nat) : Int)), (77, vi ((k2_ : Nat) : Int)), (140, vi ((((stepM a1_0 f e1_).take k2_).length : Nat) : Int)), (141, vi ((k3_ : Nat) : Int))] [(1, .box 28 (avs (Firmware.cells f)))] 4 ?_
                 refine AWp.split (decide (ofM ((k3_ : Nat) : Int) < ofM ((k2_ : Nat) : Int))) (fun h42 => ?_) (fun h42 => ?_)
                 ·
                  have h42' := of_decide_eq_true h42
                  obtain ⟨e5_, he5_⟩ := getEx (l := stepM a1_0 f e1_) (j := k3_) (by first | omega | (simp only [List.length_take] at *; omega))
                  refine AWp.dz [vi ((k3_ : Nat) : Int), vi (ofM ((k3_ : Nat) : Int)), vi ((k2_ : Nat) : Int), vi (ofM ((k2_ : Nat) : Int)), vb true, vb true, .rv (.sl 6 ((stepM a1_0 f e1_).map Update.cells)), vi ((k3_ : Nat) : Int), .rv (.ptr (Update.cells e5_)), .agg (avs (Update.cells e5_)), .agg (avs (Firmware.cells f)), vb (rcompleteM e5_ f), vb (!(rcompleteM e5_ f)), vb (!(rcompleteM e5_ f))] 163 [(5, .ptr 1 0), (9, .rv (.sl 6 (((newM h f v).1).map Update.cells))), (11, .rv (.sl 6 (a1_0.map Update.cells))), (14, .rv (.sl 6 ((stepM a1_0 f e1_).map Update.cells))), (15, vi ((k2_ : Nat) : Int)), (55, .rv (.sl 5 (os.map Op51.cells))), (56, vi ((os.length : Nat) : Int)), (57, vi ((k1_ : Nat) : Int)), (75, .rv (.sl 6 ((stepM a1_0 f e1_).map Update.cells))), (76, vi (((stepM a1_0 f e1_).length : Nat) : Int)), (77, vi ((k2_ : Nat) : Int)), (140, vi ((((stepM a1_0 f e1_).take k2_).length : Nat) : Int)), (141, vi ((k3_ : Nat) : Int)), (157, vb (!(rcompleteM e5_ f)))] [(1, .box 28 (avs (Firmware.cells f)))] 4 ?_ ?_
                  ·
                   refine DSteps.cons (DStep.va) ?_
                   refine DSteps.cons (DStep.call rfl (by kernel_rfl) (by kernel_rfl) (by kernel_rfl) (args := [vi ((k3_ : Nat) : Int)]) (by kernel_rfl) (by kernel_rfl) (ofM_ok ((k3_ : Nat) : Int) (by first | (with_reducible first | assumption | exact home_dev (by assumption) | exact hv1_.2 | exact Good.len hv1_.2 | exact Good.fit hv1_.2) | omega | (have := hv1_.2.len; have := hv1_.1; have := stepM_len a1_0 f e1_; simp only [List.length_take] at *; omega))) (by kernel_rfl) (Nat.le_of_ble_eq_true (by kernel_rfl))) ?_
                   refine DSteps.cons (DStep.va) ?_
                   refine DSteps.cons (DStep.call rfl (by kernel_rfl) (by kernel_rfl) (by kernel_rfl) (args := [vi ((k2_ : Nat) : Int)]) (by kernel_rfl) (by kernel_rfl) (ofM_ok ((k2_ : Nat) : Int) (by first | (with_reducible first | assumption | exact home_dev (by assumption) | exact hv1_.2 | exact Good.len hv1_.2 | exact Good.fit hv1_.2) | omega | (have := hv1_.2.len; have := hv1_.1; have := stepM_len a1_0 f e1_; simp only [List.length_take] at *; omega))) (by kernel_rfl) (Nat.le_of_ble_eq_true (by kernel_rfl))) ?_
                   refine DSteps.cons ((DStep.val (v := vb (decide (ofM ((k3_ : Nat) : Int) < ofM ((k2_ : Nat) : Int)))) (by kernel_rfl) (by kernel_rfl)).cast (congrArg vb h42)) ?_
                   refine DSteps.cons (DStep.va) ?_
                   refine DSteps.cons (DStep.va) ?_
                   refine DSteps.cons (DStep.va) ?_
                   refine DSteps.cons (DStep.vs (by kernel_rfl) (R_indexAddrM Update.cells (stepM a1_0 f e1_) 6 k3_ rfl (by kernel_rfl) (by kernel_rfl) (by kernel_rfl) he5_)) ?_
                   refine DSteps.cons (DStep.va) ?_
                   refine DSteps.cons (DStep.va) ?_
                   refine DSteps.cons (DStep.call rfl (by kernel_rfl) (by kernel_rfl) (by kernel_rfl) (args := [.agg (avs (Update.cells e5_)), .agg (avs (Firmware.cells f))]) (by kernel_rfl) (by kernel_rfl) (rcompleteM_ok e5_ f) (by kernel_rfl) (Nat.le_of_ble_eq_true (by kernel_rfl))) ?_
                   refine DSteps.cons (DStep.va) ?_
                   refine DSteps.cons (DStep.va) ?_
                   exact DSteps.nl
                  refine AWp.cnd (!(rcompleteM e5_ f)) (fun h43 => ?_) (fun h43 => ?_)
                  ·
                   refine AWp.hz [.run 1] 163 [(8, vb false)] [] 4 ?_
                   refine AWp.ret ?_
                   have hL3_ : lWavesM_L3 h f v os a1_0 k2_ e1_ = some false := scanN_some hs3_ (by omega) (by unfold lWavesM_B3; (try simp only [he1_]); (try simp only [he2_]); (try simp only [he3_]); (try simp only [he4_]); (try simp only [he5_]); (try rw [h41]); (try rw [h42]); (try rw [h43]); first | done | kernel_rfl)
                   have hL2_ : lWavesM_L2 h f v os a1_0 e1_ = some false := scanN_some hs2_ (by omega) (by unfold lWavesM_B2; (try simp only [he1_]); (try simp only [he2_]); (try simp only [he3_]); (try simp only [he4_]); (try simp only [he5_]); (try rw [h19]); (try rw [h20]); (try rw [hg21]); (try rw [hg22]); (try rw [h38]); (try rw [h39]); (try rw [h41]); (try rw [h42]); (try rw [h43]); (try rw [hL3_]); first | done | kernel_rfl)
                   have hL1_ : (lWavesM_L1 h f v os ((newM h f v).1)) = .inl false := loopS_ret hs1_ (by omega) (by unfold lWavesM_B1; (try dsimp only); (try simp only [he1_]); (try simp only [he2_]); (try simp only [he3_]); (try simp only [he4_]); (try simp only [he5_]); (try rw [h12]); (try rw [h14]); (try rw [h17]); (try rw [h19]); (try rw [h20]); (try rw [hg21]); (try rw [hg22]); (try rw [h38]); (try rw [h39]); (try rw [h41]); (try rw [h42]); (try rw [h43]); (try rw [hL3_]); (try rw [hL2_]); first | done | kernel_rfl)
                   exact leafR (r := vb false) (by show (vb false : AV) = vb (lWavesM h f v os); unfold lWavesM; (try rw [h7]); (try rw [h8]); (try rw [hL1_]); (try dsimp only); first | done | kernel_rfl)
                  ·
                   refine AWp.skip ?_
                   refine AWp.he [.cast (vi (IntKind.i64.wrap (((k3_ : Nat) : Int) + 1))) (vi ((k3_ + 1 : Nat) : Int)) (congrArg vi (wrap_nat (by omega))), .run 1] 163 [(5, .ptr 1 0), (9, .rv (.sl 6 (((newM h f v).1).map Update.cells))), (11, .rv (.sl 6 (a1_0.map Update.cells))), (14, .rv (.sl 6 ((stepM a1_0 f e1_).map Update.cells))), (15, vi ((k2_ : Nat) : Int)), (55, .rv (.sl 5 (os.map Op51.cells))), (56, vi ((os.length : Nat) : Int)), (57, vi ((k1_ : Nat) : Int)), (75, .rv (.sl 6 ((stepM a1_0 f e1_).map Update.cells))), (76, vi (((stepM a1_0 f e1_).length : Nat) : Int)), (77, vi ((k2_ : Nat) : Int)), (140, vi ((((stepM a1_0 f e1_).take k2_).length : Nat) : Int)), (141, vi ((k3_ + 1 : Nat) : Int))] [(1, .box 28 (avs (Firmware.cells f)))] 4 ?_
                   exact ⟨k3_ + 1, ⟨by omega, scanN_none hs3_ (by omega) (by unfold lWavesM_B3; (try simp only [he1_]); (try simp only [he2_]); (try simp only [he3_]); (try simp only [he4_]); (try simp only [he5_]); (try rw [h41]); (try rw [h42]); (try rw [h43]); first | done | kernel_rfl)⟩, by omega, leG⟩
                 ·
                  have h42' := of_decide_eq_false h42
                  refine AWp.dz [vi ((k3_ : Nat) : Int), vi (ofM ((k3_ : Nat) : Int)), vi ((k2_ : Nat) : Int), vi (ofM ((k2_ : Nat) : Int)), vb false, vb false, .tuple [], .tuple [], .tuple [], .tuple [], .tuple [], .tuple [], .tuple [], vb false] 163 [(5, .ptr 1 0), (9, .rv (.sl 6 (((newM h f v).1).map Update.cells))), (11, .rv (.sl 6 (a1_0.map Update.cells))), (14, .rv (.sl 6 ((stepM a1_0 f e1_).map Update.cells))), (15, vi ((k2_ : Nat) : Int)), (55, .rv (.sl 5 (os.map Op51.cells))), (56, vi ((os.length : Nat) : Int)), (57, vi ((k1_ : Nat) : Int)), (75, .rv (.sl 6 ((stepM a1_0 f e1_).map Update.cells))), (76, vi (((stepM a1_0 f e1_).length : Nat) : Int)), (77, vi ((k2_ : Nat) : Int)), (140, vi ((((stepM a1_0 f e1_).take k2_).length : Nat) : Int)), (141, vi ((k3_ : Nat) : Int)), (157, vb false)] [(1, .box 28 (avs (Firmware.cells f)))] 4 ?_ ?_
                  ·
                   refine DSteps.cons (DStep.va) ?_
                   refine DSteps.cons (DStep.call rfl (by kernel_rfl) (by kernel_rfl) (by kernel_rfl) (args := [vi ((k3_ : Nat) : Int)]) (by kernel_rfl) (by kernel_rfl) (ofM_ok ((k3_ : Nat) : Int) (by first | (with_reducible first | assumption | exact home_dev (by assumption) | exact hv1_.2 | exact Good.len hv1_.2 | exact Good.fit hv1_.2) | omega | (have := hv1_.2.len; have := hv1_.1; have := stepM_len a1_0 f e1_; simp only [List.length_take] at *; omega))) (by kernel_rfl) (Nat.le_of_ble_eq_true (by kernel_rfl))) ?_
                   refine DSteps.cons (DStep.va) ?_
                   refine DSteps.cons (DStep.call rfl (by kernel_rfl) (by kernel_rfl) (by kernel_rfl) (args := [vi ((k2_ : Nat) : Int)]) (by kernel_rfl) (by kernel_rfl) (ofM_ok ((k2_ : Nat) : Int) (by first | (with_reducible first | assumption | exact home_dev (by assumption) | exact hv1_.2 | exact Good.len hv1_.2 | exact Good.fit hv1_.2) | omega | (have := hv1_.2.len; have := hv1_.1; have := stepM_len a1_0 f e1_; simp only [List.length_take] at *; omega))) (by kernel_rfl) (Nat.le_of_ble_eq_true (by kernel_rfl))) ?_
                   refine DSteps.cons ((DStep.val (v := vb (decide (ofM ((k3_ : Nat) : Int) < ofM ((k2_ : Nat) : Int)))) (by kernel_rfl) (by kernel_rfl)).cast (congrArg vb h42)) ?_
                   refine DSteps.cons (DStep.va) ?_
                   refine DSteps.cons (DStep.skip (by kernel_rfl)) ?_
                   refine DSteps.cons (DStep.skip (by kernel_rfl)) ?_
                   refine DSteps.cons (DStep.skip (by kernel_rfl)) ?_
                   refine DSteps.cons (DStep.skip (by kernel_rfl)) ?_
                   refine DSteps.cons (DStep.skip (by kernel_rfl)) ?_
                   refine DSteps.cons (DStep.skip (by kernel_rfl)) ?_
                   refine DSteps.cons (DStep.skip (by kernel_rfl)) ?_
                   refine DSteps.cons (DStep.va) ?_
                   exact DSteps.nl
                  refine AWp.cndF ?_
                  refine AWp.skip ?_
                  refine AWp.he [.cast (vi (IntKind.i64.wrap (((k3_ : Nat) : Int) + 1))) (vi ((k3_ + 1 : Nat) : Int)) (congrArg vi (wrap_nat (by omega))), .run 1] 163 [(5, .ptr 1 0), (9, .rv (.sl 6 (((newM h f v).1).map Update.cells))), (11, .rv (.sl 6 (a1_0.map Update.cells))), (14, .rv (.sl 6 ((stepM a1_0 f e1_).map Update.cells))), (15, vi ((k2_ : Nat) : Int)), (55, .rv (.sl 5 (os.map Op51.cells))), (56, vi ((os.length : Nat) : Int)), (57, vi ((k1_ : Nat) : Int)), (75, .rv (.sl 6 ((stepM a1_0 f e1_).map Update.cells))), (76, vi (((stepM a1_0 f e1_).length : Nat) : Int)), (77, vi ((k2_ : Nat) : Int)), (140, vi ((((stepM a1_0 f e1_).take k2_).length : Nat) : Int)), (141, vi ((k3_ + 1 : Nat) : Int))] [(1, .box 28 (avs (Firmware.cells f)))] 4 ?_
                  exact ⟨k3_ + 1, ⟨by omega, scanN_none hs3_ (by omega) (by unfold lWavesM_B3; (try simp only [he1_]); (try simp only [he2_]); (try simp only [he3_]); (try simp only [he4_]); (try rw [h41]); (try rw [h42]); first | done | kernel_rfl)⟩, by omega, leG⟩
                ·
                 have h41' := of_decide_eq_false h41
                 refine AWp.exit ?_
                 have hL3_ : lWavesM_L3 h f v os a1_0 k2_ e1_ = none := scanN_end hs3_ (by omega)
                 refine AWp.he [.cast (vi (IntKind.i64.wrap (((k2_ : Nat) : Int) + 1))) (vi ((k2_ + 1 : Nat) : Int)) (congrArg vi (wrap_nat (by omega))), .run 1] 163 [(5, .ptr 1 0), (9, .rv (.sl 6 (((newM h f v).1).map Update.cells))), (11, .rv (.sl 6 (a1_0.map Update.cells))), (14, .rv (.sl 6 ((stepM a1_0 f e1_).map Update.cells))), (55, .rv (.sl 5 (os.map Op51.cells))), (56, vi ((os.length : Nat) : Int)), (57, vi ((k1_ : Nat) : Int)), (75, .rv (.sl 6 ((stepM a1_0 f e1_).map Update.cells))), (76, vi (((stepM a1_0 f e1_).length : Nat) : Int)), (77, vi ((k2_ + 1 : Nat) : Int))] [(1, .box 28 (avs (Firmware.cells f)))] 4 ?_
                 exact ⟨k2_ + 1, ⟨by omega, scanN_none hs2_ (by omega) (by unfold lWavesM_B2; (try simp only [he1_]); (try simp only [he2_]); (try simp only [he3_]); (try simp only [he4_]); (try rw [h19]); (try rw [h20]); (try rw [hg21]); (try rw [hg22]); (try rw [h38]); (try rw [h39]); (try rw [hL3_]); first | done | kernel_rfl)⟩, by omega, leG⟩
          ·
           refine AOps.he [.run 11] 163 [(5, .ptr 1 0), (9, .rv (.sl 6 (((newM h f v).1).map Update.cells))), (11, .rv (.sl 6 (a1_0.map Update.cells))), (14, .rv (.sl 6 ((stepM a1_0 f e1_).map Update.cells))), (15, vi ((k2_ : Nat) : Int)), (16, .ptr 3 0), (55, .rv (.sl 5 (os.map Op51.cells))), (56, vi ((os.length : Nat) : Int)), (57, vi ((k1_ : Nat) : Int)), (75, .rv (.sl 6 ((stepM a1_0 f e1_).map Update.cells))), (76, vi (((stepM a1_0 f e1_).length : Nat) : Int)), (77, vi ((k2_ : Nat) : Int)), (104, vb false)] [(3, .box 54 (avs (Update.cells e2_))), (1, .box 28 (avs (Firmware.cells f)))] 4 ?_
           refine AWp.cndF ?_
           refine AWp.skip ?_
           refine AWp.hz [.run 2, .idx Update.cells ((newM h f v).1) 6 k2_ e3_ he3_, .run 3] 163 [(5, .ptr 1 0), (9, .rv (.sl 6 (((newM h f v).1).map Update.cells))), (11, .rv (.sl 6 (a1_0.map Update.cells))), (14, .rv (.sl 6 ((stepM a1_0 f e1_).map Update.cells))), (15, vi ((k2_ : Nat) : Int)), (16, .ptr 3 0), (17, vi e3_.version), (55, .rv (.sl 5 (os.map Op51.cells))), (56, vi ((os.length : Nat) : Int)), (57, vi ((k1_ : Nat) : Int)), (75, .rv (.sl 6 ((stepM a1_0 f e1_).map Update.cells))), (76, vi (((stepM a1_0 f e1_).length : Nat) : Int)), (77, vi ((k2_ : Nat) : Int))] [(3, .box 54 (avs (Update.cells e2_))), (1, .box 28 (avs (Firmware.cells f)))] 4 ?_
           refine AWp.join (Z 163 [(5, .ptr 1 0), (9, .rv (.sl 6 (((newM h f v).1).map Update.cells))), (11, .rv (.sl 6 (a1_0.map Update.cells))), (14, .rv (.sl 6 ((stepM a1_0 f e1_).map Update.cells))), (15, vi ((k2_ : Nat) : Int)), (16, .ptr 3 0), (17, vi (bif ((e2_.status == 3) || (e2_.status == 4)) then f.version else e3_.version)), (55, .rv (.sl 5 (os.map Op51.cells))), (56, vi ((os.length : Nat) : Int)), (57, vi ((k1_ : Nat) : Int)), (75, .rv (.sl 6 ((stepM a1_0 f e1_).map Update.cells))), (76, vi (((stepM a1_0 f e1_).length : Nat) : Int)), (77, vi ((k2_ : Nat) : Int))] [(3, .box 54 (avs (Update.cells e2_))), (1, .box 28 (avs (Firmware.cells f)))] 4) ?_ ?_
           ·
            refine AWp.join (Z 163 [(5, .ptr 1 0), (9, .rv (.sl 6 (((newM h f v).1).map Update.cells))), (11, .rv (.sl 6 (a1_0.map Update.cells))), (14, .rv (.sl 6 ((stepM a1_0 f e1_).map Update.cells))), (15, vi ((k2_ : Nat) : Int)), (16, .ptr 3 0), (17, vi e3_.version), (55, .rv (.sl 5 (os.map Op51.cells))), (56, vi ((os.length : Nat) : Int)), (57, vi ((k1_ : Nat) : Int)), (75, .rv (.sl 6 ((stepM a1_0 f e1_).map Update.cells))), (76, vi (((stepM a1_0 f e1_).length : Nat) : Int)), (77, vi ((k2_ : Nat) : Int)), (117, vb ((e2_.status == 3) || (e2_.status == 4)))] [(3, .box 54 (avs (Update.cells e2_))), (1, .box 28 (avs (Firmware.cells f)))] 4) ?_ ?_
            ·
             refine AWp.region ?_
             refine AOps.hg [.run 4] ((e2_.status == 3)) 163 (fun b_ => [(5, .ptr 1 0), (9, .rv (.sl 6 (((newM h f v).1).map Update.cells))), (11, .rv (.sl 6 (a1_0.map Update.cells))), (14, .rv (.sl 6 ((stepM a1_0 f e1_).map Update.cells))), (15, vi ((k2_ : Nat) : Int)), (16, .ptr 3 0), (17, vi e3_.version), (55, .rv (.sl 5 (os.map Op51.cells))), (56, vi ((os.length : Nat) : Int)), (57, vi ((k1_ : Nat) : Int)), (75, .rv (.sl 6 ((stepM a1_0 f e1_).map Update.cells))), (76, vi (((stepM a1_0 f e1_).length : Nat) : Int)), (77, vi ((k2_ : Nat) : Int)), (113, vb b_)]) [(3, .box 54 (avs (Update.cells e2_))), (1, .box 28 (avs (Firmware.cells f)))] 4 (fun hg44 => ?_) (fun hg44 => ?_)
             ·
              refine AOps.he [.run 4] 163 [(5, .ptr 1 0), (9, .rv (.sl 6 (((newM h f v).1).map Update.cells))), (11, .rv (.sl 6 (a1_0.map Update.cells))), (14, .rv (.sl 6 ((stepM a1_0 f e1_).map Update.cells))), (15, vi ((k2_ : Nat) : Int)), (16, .ptr 3 0), (17, vi e3_.version), (55, .rv (.sl 5 (os.map Op51.cells))), (56, vi ((os.length : Nat) : Int)), (57, vi ((k1_ : Nat) : Int)), (75, .rv (.sl 6 ((stepM a1_0 f e1_).map Update.cells))), (76, vi (((stepM a1_0 f e1_).length : Nat) : Int)), (77, vi ((k2_ : Nat) : Int)), (117, vb true)] [(3, .box 54 (avs (Update.cells e2_))), (1, .box 28 (avs (Firmware.cells f)))] 4 ?_
              exact leZ (by rw [hg44]; first | done | kernel_rfl)
             ·
              refine AOps.he [.run 4] 163 [(5, .ptr 1 0), (9, .rv (.sl 6 (((newM h f v).1).map Update.cells))), (11, .rv (.sl 6 (a1_0.map Update.cells))), (14, .rv (.sl 6 ((stepM a1_0 f e1_).map Update.cells))), (15, vi ((k2_ : Nat) : Int)), (16, .ptr 3 0), (17, vi e3_.version), (55, .rv (.sl 5 (os.map Op51.cells))), (56, vi ((os.length : Nat) : Int)), (57, vi ((k1_ : Nat) : Int)), (75, .rv (.sl 6 ((stepM a1_0 f e1_).map Update.cells))), (76, vi (((stepM a1_0 f e1_).length : Nat) : Int)), (77, vi ((k2_ : Nat) : Int)), (117, vb (e2_.status == 4))] [(3, .box 54 (avs (Update.cells e2_))), (1, .box 28 (avs (Firmware.cells f)))] 4 ?_
              exact leZ (by rw [hg44]; first | done | kernel_rfl)
            ·
             refine AWp.cnd (((e2_.status == 3) || (e2_.status == 4))) (fun h45 => ?_) (fun h45 => ?_)
             ·
              refine AWp.he [.run 3] 163 [(5, .ptr 1 0), (9, .rv (.sl 6 (((newM h f v).1).map Update.cells))), (11, .rv (.sl 6 (a1_0.map Update.cells))), (14, .rv (.sl 6 ((stepM a1_0 f e1_).map Update.cells))), (15, vi ((k2_ : Nat) : Int)), (16, .ptr 3 0), (17, vi f.version), (55, .rv (.sl 5 (os.map Op51.cells))), (56, vi ((os.length : Nat) : Int)), (57, vi ((k1_ : Nat) : Int)), (75, .rv (.sl 6 ((stepM a1_0 f e1_).map Update.cells))), (76, vi (((stepM a1_0 f e1_).length : Nat) : Int)), (77, vi ((k2_ : Nat) : Int))] [(3, .box 54 (avs (Update.cells e2_))), (1, .box 28 (avs (Firmware.cells f)))] 4 ?_
              exact leZ (by rw [h45]; first | done | kernel_rfl)
             ·
              have h45l := or_fl h45
              have h45r := or_fr h45
              refine AWp.skip ?_
              exact leZ (by rw [h45]; first | done | kernel_rfl)
           ·
            refine AWp.seq ?_
            refine AWp.join (Z 163 [(5, .ptr 1 0), (9, .rv (.sl 6 (((newM h f v).1).map Update.cells))), (11, .rv (.sl 6 (a1_0.map Update.cells))), (14, .rv (.sl 6 ((stepM a1_0 f e1_).map Update.cells))), (15, vi ((k2_ : Nat) : Int)), (16, .ptr 3 0), (55, .rv (.sl 5 (os.map Op51.cells))), (56, vi ((os.length : Nat) : Int)), (57, vi ((k1_ : Nat) : Int)), (75, .rv (.sl 6 ((stepM a1_0 f e1_).map Update.cells))), (76, vi (((stepM a1_0 f e1_).length : Nat) : Int)), (77, vi ((k2_ : Nat) : Int)), (133, vb (((e2_.version != (bif ((e2_.status == 3) || (e2_.status == 4)) then f.version else e3_.version)) || decide (e2_.status < 0)) || decide (e2_.status > 5)))] [(3, .box 54 (avs (Update.cells e2_))), (1, .box 28 (avs (Firmware.cells f)))] 4) ?_ ?_
            ·
             refine AWp.region ?_
             refine AOps.hg [.run 5] ((e2_.version != (bif ((e2_.status == 3) || (e2_.status == 4)) then f.version else e3_.version))) 163 (fun b_ => [(5, .ptr 1 0), (9, .rv (.sl 6 (((newM h f v).1).map Update.cells))), (11, .rv (.sl 6 (a1_0.map Update.cells))), (14, .rv (.sl 6 ((stepM a1_0 f e1_).map Update.cells))), (15, vi ((k2_ : Nat) : Int)), (16, .ptr 3 0), (55, .rv (.sl 5 (os.map Op51.cells))), (56, vi ((os.length : Nat) : Int)), (57, vi ((k1_ : Nat) : Int)), (75, .rv (.sl 6 ((stepM a1_0 f e1_).map Update.cells))), (76, vi (((stepM a1_0 f e1_).length : Nat) : Int)), (77, vi ((k2_ : Nat) : Int)), (124, vb b_)]) [(3, .box 54 (avs (Update.cells e2_))), (1, .box 28 (avs (Firmware.cells f)))] 4 (fun hg46 => ?_) (fun hg46 => ?_)
             ·
              refine AOps.he [.run 9] 163 [(5, .ptr 1 0), (9, .rv (.sl 6 (((newM h f v).1).map Update.cells))), (11, .rv (.sl 6 (a1_0.map Update.cells))), (14, .rv (.sl 6 ((stepM a1_0 f e1_).map Update.cells))), (15, vi ((k2_ : Nat) : Int)), (16, .ptr 3 0), (55, .rv (.sl 5 (os.map Op51.cells))), (56, vi ((os.length : Nat) : Int)), (57, vi ((k1_ : Nat) : Int)), (75, .rv (.sl 6 ((stepM a1_0 f e1_).map Update.cells))), (76, vi (((stepM a1_0 f e1_).length : Nat) : Int)), (77, vi ((k2_ : Nat) : Int)), (133, vb true)] [(3, .box 54 (avs (Update.cells e2_))), (1, .box 28 (avs (Firmware.cells f)))] 4 ?_
              exact leZ (by rw [hg46]; first | done | kernel_rfl)
             ·
              refine AOps.hg [.run 5] (decide (e2_.status < 0)) 163 (fun b_ => [(5, .ptr 1 0), (9, .rv (.sl 6 (((newM h f v).1).map Update.cells))), (11, .rv (.sl 6 (a1_0.map Update.cells))), (14, .rv (.sl 6 ((stepM a1_0 f e1_).map Update.cells))), (15, vi ((k2_ : Nat) : Int)), (16, .ptr 3 0), (55, .rv (.sl 5 (os.map Op51.cells))), (56, vi ((os.length : Nat) : Int)), (57, vi ((k1_ : Nat) : Int)), (75, .rv (.sl 6 ((stepM a1_0 f e1_).map Update.cells))), (76, vi (((stepM a1_0 f e1_).length : Nat) : Int)), (77, vi ((k2_ : Nat) : Int)), (129, vb b_)]) [(3, .box 54 (avs (Update.cells e2_))), (1, .box 28 (avs (Firmware.cells f)))] 4 (fun hg47 => ?_) (fun hg47 => ?_)
              ·
               have hg47' := of_decide_eq_true hg47
               refine AOps.he [.run 4] 163 [(5, .ptr 1 0), (9, .rv (.sl 6 (((newM h f v).1).map Update.cells))), (11, .rv (.sl 6 (a1_0.map Update.cells))), (14, .rv (.sl 6 ((stepM a1_0 f e1_).map Update.cells))), (15, vi ((k2_ : Nat) : Int)), (16, .ptr 3 0), (55, .rv (.sl 5 (os.map Op51.cells))), (56, vi ((os.length : Nat) : Int)), (57, vi ((k1_ : Nat) : Int)), (75, .rv (.sl 6 ((stepM a1_0 f e1_).map Update.cells))), (76, vi (((stepM a1_0 f e1_).length : Nat) : Int)), (77, vi ((k2_ : Nat) : Int)), (133, vb true)] [(3, .box 54 (avs (Update.cells e2_))), (1, .box 28 (avs (Firmware.cells f)))] 4 ?_
               exact leZ (by rw [hg46, hg47]; first | done | kernel_rfl)
              ·
               have hg47' := of_decide_eq_false hg47
               refine AOps.he [.run 4] 163 [(5, .ptr 1 0), (9, .rv (.sl 6 (((newM h f v).1).map Update.cells))), (11, .rv (.sl 6 (a1_0.map Update.cells))), (14, .rv (.sl 6 ((stepM a1_0 f e1_).map Update.cells))), (15, vi ((k2_ : Nat) : Int)), (16, .ptr 3 0), (55, .rv (.sl 5 (os.map Op51.cells))), (56, vi ((os.length : Nat) : Int)), (57, vi ((k1_ : Nat) : Int)), (75, .rv (.sl 6 ((stepM a1_0 f e1_).map Update.cells))), (76, vi (((stepM a1_0 f e1_).length : Nat) : Int)), (77, vi ((k2_ : Nat) : Int)), (133, vb (decide (e2_.status > 5)))] [(3, .box 54 (avs (Update.cells e2_))), (1, .box 28 (avs (Firmware.cells f)))] 4 ?_
               exact leZ (by rw [hg46, hg47]; first | done | kernel_rfl)
            ·
             refine AWp.cnd ((((e2_.version != (bif ((e2_.status == 3) || (e2_.status == 4)) then f.version else e3_.version)) || decide (e2_.status < 0)) || decide (e2_.status > 5))) (fun h48 => ?_) (fun h48 => ?_)
             ·
              refine AWp.hz [.run 1] 163 [(8, vb false)] [] 4 ?_
              refine AWp.ret ?_
              have hL2_ : lWavesM_L2 h f v os a1_0 e1_ = some false := scanN_some hs2_ (by omega) (by unfold lWavesM_B2; (try simp only [he1_]); (try simp only [he2_]); (try simp only [he3_]); (try rw [h19]); (try rw [h20]); (try rw [hg21]); (try rw [h48]); first | done | kernel_rfl)
              have hL1_ : (lWavesM_L1 h f v os ((newM h f v).1)) = .inl false := loopS_ret hs1_ (by omega) (by unfold lWavesM_B1; (try dsimp only); (try simp only [he1_]); (try simp only [he2_]); (try simp only [he3_]); (try rw [h12]); (try rw [h14]); (try rw [h17]); (try rw [h19]); (try rw [h20]); (try rw [hg21]); (try rw [h48]); (try rw [hL2_]); first | done | kernel_rfl)
              exact leafR (r := vb false) (by show (vb false : AV) = vb (lWavesM h f v os); unfold lWavesM; (try rw [h7]); (try rw [h8]); (try rw [hL1_]); (try dsimp only); first | done | kernel_rfl)
             ·
              have h48l := or_fl h48
              have h48ll := or_fl h48l
              have h48lr := or_fr h48l
              have h48lr' := of_decide_eq_false h48lr
              have h48r := or_fr h48
              have h48r' := of_decide_eq_false h48r
              refine AWp.skip ?_
              refine AWp.seq ?_
              refine AWp.hz [.run 3] 163 [(5, .ptr 1 0), (9, .rv (.sl 6 (((newM h f v).1).map Update.cells))), (11, .rv (.sl 6 (a1_0.map Update.cells))), (14, .rv (.sl 6 ((stepM a1_0 f e1_).map Update.cells))), (15, vi ((k2_ : Nat) : Int)), (55, .rv (.sl 5 (os.map Op51.cells))), (56, vi ((os.length : Nat) : Int)), (57, vi ((k1_ : Nat) : Int)), (75, .rv (.sl 6 ((stepM a1_0 f e1_).map Update.cells))), (76, vi (((stepM a1_0 f e1_).length : Nat) : Int)), (77, vi ((k2_ : Nat) : Int)), (136, vb (e2_.status == 0))] [(1, .box 28 (avs (Firmware.cells f)))] 4 ?_
              refine AWp.cnd ((e2_.status == 0)) (fun h49 => ?_) (fun h49 => ?_)
              ·
               refine AWp.exit ?_
               refine AWp.he [.cast (vi (IntKind.i64.wrap (((k2_ : Nat) : Int) + 1))) (vi ((k2_ + 1 : Nat) : Int)) (congrArg vi (wrap_nat (by omega))), .run 1] 163 [(5, .ptr 1 0), (9, .rv (.sl 6 (((newM h f v).1).map Update.cells))), (11, .rv (.sl 6 (a1_0.map Update.cells))), (14, .rv (.sl 6 ((stepM a1_0 f e1_).map Update.cells))), (55, .rv (.sl 5 (os.map Op51.cells))), (56, vi ((os.length : Nat) : Int)), (57, vi ((k1_ : Nat) : Int)), (75, .rv (.sl 6 ((stepM a1_0 f e1_).map Update.cells))), (76, vi (((stepM a1_0 f e1_).length : Nat) : Int)), (77, vi ((k2_ + 1 : Nat) : Int))] [(1, .box 28 (avs (Firmware.cells f)))] 4 ?_
               exact ⟨k2_ + 1, ⟨by omega, scanN_none hs2_ (by omega) (by unfold lWavesM_B2; (try simp only [he1_]); (try simp only [he2_]); (try simp only [he3_]); (try rw [h19]); (try rw [h20]); (try rw [hg21]); (try rw [h48]); (try rw [h49]); first | done | kernel_rfl)⟩, by omega, leG⟩
              ·
               refine AWp.skip ?_
               refine AWp.hzl [.run 2, .take Update.cells (stepM a1_0 f e1_) 6 k2_ (by omega), .len Update.cells ((stepM a1_0 f e1_).take k2_) 6, .run 1] 163 [(5, .ptr 1 0), (9, .rv (.sl 6 (((newM h f v).1).map Update.cells))), (11, .rv (.sl 6 (a1_0.map Update.cells))), (14, .rv (.sl 6 ((stepM a1_0 f e1_).map Update.cells))), (15, vi ((k2_ : Nat) : Int)), (55, .rv (.sl 5 (os.map Op51.cells))), (56, vi ((os.length : Nat) : Int)), (57, vi ((k1_ : Nat) : Int)), (75, .rv (.sl 6 ((stepM a1_0 f e1_).map Update.cells))), (76, vi (((stepM a1_0 f e1_).length : Nat) : Int)), (77, vi ((k2_ : Nat) : Int)), (140, vi ((((stepM a1_0 f e1_).take k2_).length : Nat) : Int)), (141, vi 0)] [(1, .box 28 (avs (Firmware.cells f)))] 4 (fun hl => ?_)
               obtain ⟨hn50, -⟩ := hl
               refine AWp.block ?_
               refine AWp.loop (ι := Nat) (fun k3_ => Z 163 [(5, .ptr 1 0), (9, .rv (.sl 6 (((newM h f v).1).map Update.cells))), (11, .rv (.sl 6 (a1_0.map Update.cells))), (14, .rv (.sl 6 ((stepM a1_0 f e1_).map Update.cells))), (15, vi ((k2_ : Nat) : Int)), (55, .rv (.sl 5 (os.map Op51.cells))), (56, vi ((os.length : Nat) : Int)), (57, vi ((k1_ : Nat) : Int)), (75, .rv (.sl 6 ((stepM a1_0 f e1_).map Update.cells))), (76, vi (((stepM a1_0 f e1_).length : Nat) : Int)), (77, vi ((k2_ : Nat) : Int)), (140, vi ((((stepM a1_0 f e1_).take k2_).length : Nat) : Int)), (141, vi ((k3_ : Nat) : Int))] [(1, .box 28 (avs (Firmware.cells f)))] 4) (fun k3_ => k3_ ≤ (((stepM a1_0 f e1_).take k2_).length) ∧ lWavesM_L3 h f v os a1_0 k2_ e1_ = scanN (lWavesM_B3 h f v os a1_0 k2_ e1_) k3_ ((((stepM a1_0 f e1_).take k2_).length) - k3_)) (fun k3_ => (((stepM a1_0 f e1_).take k2_).length) - k3_) 0 leZ ⟨Nat.zero_le _, rfl⟩ ?_
               intro k3_ ⟨hk3_, hs3_⟩
               refine AWp.hz [.run 1] 163 [(5, .ptr 1 0), (9, .rv (.sl 6 (((newM h f v).1).map Update.cells))), (11, .rv (.sl 6 (a1_0.map Update.cells))), (14, .rv (.sl 6 ((stepM a1_0 f e1_).map Update.cells))), (15, vi ((k2_ : Nat) : Int)), (55, .rv (.sl 5 (os.map Op51.cells))), (56, vi ((os.length : Nat) : Int)), (57, vi ((k1_ : Nat) : Int)), (75, .rv (.sl 6 ((stepM a1_0 f e1_).map Update.cells))), (76, vi (((stepM a1_0 f e1_).length : Nat) : Int)), (77, vi ((k2_ : Nat) : Int)), (140, vi ((((stepM a1_0 f e1_).take k2_).length : Nat) : Int)), (141, vi ((k3_ : Nat) : Int)), (142, vb (decide (((k3_ : Nat) : Int) < ((((stepM a1_0 f e1_).take k2_).length : Nat) : Int))))] [(1, .box 28 (avs (Firmware.cells f)))] 4 ?_
               refine AWp.seq ?_
               refine AWp.cnd (decide (((k3_ : Nat) : Int) < ((((stepM a1_0 f e1_).take k2_).length : Nat) : Int))) (fun h51 => ?_) (fun h51 => ?_)
               ·
                have h51' := of_decide_eq_true h51
                refine AWp.skip ?_
                refine AWp.seq ?_
                refine AWp.block ?_
                refine AWp.hz [.run 2] 163 [(5, .ptr 1 0), (9, .rv (.sl 6 (((newM h f v).1).map Update.cells))), (11, .rv (.sl 6 (a1_0.map Update.cells))), (14, .rv (.sl 6 ((stepM a1_0 f e1_).map Update.cells))), (15, vi ((k2_ : Nat) : Int)), (18, vi ((k3_ : Nat) : Int)), (55, .rv (.sl 5 (os.map Op51.cells))), (56, vi ((os.length : Nat) : Int)), (57, vi ((k1_ : Nat) : Int)), (75, .rv (.sl 6 ((stepM a1_0 f e1_).map Update.cells))), (76, vi (((stepM a1_0 f e1_).length : Nat) : Int)), (77, vi ((k2_ : Nat) : Int)), (140, vi ((((stepM a1_0 f e1_).take k2_).length : Nat) : Int)), (141, vi ((k3_ : Nat) : Int))] [(1, .box 28 (avs (Firmware.cells f)))] 4 ?_
                refine AWp.split (decide (ofM ((k3_ : Nat) : Int) < ofM ((k2_ : Nat) : Int))) (fun h52 => ?_) (fun h52 => ?_)
                ·
                 have h52' := of_decide_eq_true h52
                 obtain ⟨e5_, he5_⟩ := getEx (l := stepM a1_0 f e1_) (j := k3_) (by first | omega | (simp only [List.length_take] at *; omega))
                 refine AWp.dz [vi ((k3_ : Nat) : Int), vi (ofM ((k3_ : Nat) : Int)), vi ((k2_ : Nat) : Int), vi (ofM ((k2_ : Nat) : Int)), vb true, vb true, .rv (.sl 6 ((stepM a1_0 f e1_).map Update.cells)), vi ((k3_ : Nat) : Int), .rv (.ptr (Update.cells e5_)), .agg (avs (Update.cells e5_)), .agg (avs (Firmware.cells f)), vb (rcompleteM e5_ f), vb (!(rcompleteM e5_ f)), vb (!(rcompleteM e5_ f))] 163 [(5, .ptr 1 0), (9, .rv (.sl 6 (((newM h f v).1).map Update.cells))), (11, .rv (.sl 6 (a1_0.map Update.cells))), (14, .rv (.sl 6 ((stepM a1_0 f e1_).map Update.cells))), (15, vi ((k2_ : Nat) : Int)), (55, .rv (.sl 5 (os.map Op51.cells))), (56, vi ((os.length : Nat) : Int)), (57, vi ((k1_ : Nat) : Int)), (75, .rv (.sl 6 ((stepM a1_0 f e1_).map Update.cells))), (76, vi (((stepM a1_0 f e1_).length : Nat) : Int)), (77, vi ((k2_ : Nat) : Int)), (140, vi ((((stepM a1_0 f e1_).take k2_).length : Nat) : Int)), (141, vi ((k3_ : Nat) : Int)), (157, vb (!(rcompleteM e5_ f)))] [(1, .box 28 (avs (Firmware.cells f)))] 4 ?_ ?_
                 ·
                  refine DSteps.cons (DStep.va) ?_
                  refine DSteps.cons (DStep.call rfl (by kernel_rfl) (by kernel_rfl) (by kernel_rfl) (args := [vi ((k3_ : Nat) : Int)]) (by kernel_rfl) (by kernel_rfl) (ofM_ok ((k3_ : Nat) : Int) (by first | (with_reducible first | assumption | exact home_dev (by assumption) | exact hv1_.2 | exact Good.len hv1_.2 | exact Good.fit hv1_.2) | omega | (have := hv1_.2.len; have := hv1_.1; have := stepM_len a1_0 f e1_; simp only [List.length_take] at *; omega))) (by kernel_rfl) (Nat.le_of_ble_eq_true (by kernel_rfl))) ?_
                  refine DSteps.cons (DStep.va) ?_
                  refine DSteps.cons (DStep.call rfl (by kernel_rfl) (by kernel_rfl) (by kernel_rfl) (args := [vi ((k2_ : Nat) : Int)]) (by kernel_rfl) (by kernel_rfl) (ofM_ok ((k2_ : Nat) : Int) (by first | (with_reducible first | assumption | exact home_dev (by assumption) | exact hv1_.2 | exact Good.len hv1_.2 | exact Good.fit hv1_.2) | omega | (have := hv1_.2.len; have := hv1_.1; have := stepM_len a1_0 f e1_; simp only [List.length_take] at *; omega))) (by kernel_rfl) (Nat.le_of_ble_eq_true (by kernel_rfl))) ?_
                  refine DSteps.cons ((DStep.val (v := vb (decide (ofM ((k3_ : Nat) : Int) < ofM ((k2_ : Nat) : Int)))) (by kernel_rfl) (by kernel_rfl)).cast (congrArg vb h52)) ?_
                  refine DSteps.cons (DStep.va) ?_
                  refine DSteps.cons (DStep.va) ?_
                  refine DSteps.cons (DStep.va) ?_
                  refine DSteps.cons (DStep.vs (by kernel_rfl) (R_indexAddrM Update.cells (stepM a1_0 f e1_) 6 k3_ rfl (by kernel_rfl) (by kernel_rfl) (by kernel_rfl) he5_)) ?_
                  refine DSteps.cons (DStep.va) ?_
                  refine DSteps.cons (DStep.va) ?_
                  refine DSteps.cons (DStep.call rfl (by kernel_rfl) (by kernel_rfl) (by kernel_rfl) (args := [.agg (avs (Update.cells e5_)), .agg (avs (Firmware.cells f))]) (by kernel_rfl) (by kernel_rfl) (rcompleteM_ok e5_ f) (by kernel_rfl) (Nat.le_of_ble_eq_true (by kernel_rfl))) ?_
                  refine DSteps.cons (DStep.va) ?_
                  refine DSteps.cons (DStep.va) ?_
                  exact DSteps.nl
                 refine AWp.cnd (!(rcompleteM e5_ f)) (fun h53 => ?_) (fun h53 => ?_)
                 ·
                  refine AWp.hz [.run 1] 163 [(8, vb false)] [] 4 ?_
                  refine AWp.ret ?_
                  have hL3_ : lWavesM_L3 h f v os a1_0 k2_ e1_ = some false := scanN_some hs3_ (by omega) (by unfold lWavesM_B3; (try simp only [he1_]); (try simp only [he2_]); (try simp only [he3_]); (try simp only [he5_]); (try rw [h51]); (try rw [h52]); (try rw [h53]); first | done | kernel_rfl)
                  have hL2_ : lWavesM_L2 h f v os a1_0 e1_ = some false := scanN_some hs2_ (by omega) (by unfold lWavesM_B2; (try simp only [he1_]); (try simp only [he2_]); (try simp only [he3_]); (try simp only [he5_]); (try rw [h19]); (try rw [h20]); (try rw [hg21]); (try rw [h48]); (try rw [h49]); (try rw [h51]); (try rw [h52]); (try rw [h53]); (try rw [hL3_]); first | done | kernel_rfl)
                  have hL1_ : (lWavesM_L1 h f v os ((newM h f v).1)) = .inl false := loopS_ret hs1_ (by omega) (by unfold lWavesM_B1; (try dsimp only); (try simp only [he1_]); (try simp only [he2_]); (try simp only [he3_]); (try simp only [he5_]); (try rw [h12]); (try rw [h14]); (try rw [h17]); (try rw [h19]); (try rw [h20]); (try rw [hg21]); (try rw [h48]); (try rw [h49]); (try rw [h51]); (try rw [h52]); (try rw [h53]); (try rw [hL3_]); (try rw [hL2_]); first | done | kernel_rfl)
                  exact leafR (r := vb false) (by show (vb false : AV) = vb (lWavesM h f v os); unfold lWavesM; (try rw [h7]); (try rw [h8]); (try rw [hL1_]); (try dsimp only); first | done | kernel_rfl)
                 ·
                  refine AWp.skip ?_
                  refine AWp.he [.cast (vi (IntKind.i64.wrap (((k3_ : Nat) : Int) + 1))) (vi ((k3_ + 1 : Nat) : Int)) (congrArg vi (wrap_nat (by omega))), .run 1] 163 [(5, .ptr 1 0), (9, .rv (.sl 6 (((newM h f v).1).map Update.cells))), (11, .rv (.sl 6 (a1_0.map Update.cells))), (14, .rv (.sl 6 ((stepM a1_0 f e1_).map Update.cells))), (15, vi ((k2_ : Nat) : Int)), (55, .rv (.sl 5 (os.map Op51.cells))), (56, vi ((os.length : Nat) : Int)), (57, vi ((k1_ : Nat) : Int)), (75, .rv (.sl 6 ((stepM a1_0 f e1_).map Update.cells))), (76, vi (((stepM a1_0 f e1_).length : Nat) : Int)), (77, vi ((k2_ : Nat) : Int)), (140, vi ((((stepM a1_0 f e1_).take k2_).length : Nat) : Int)), (141, vi ((k3_ + 1 : Nat) : Int))] [(1, .box 28 (avs (Firmware.cells f)))] 4 ?_
                  exact ⟨k3_ + 1, ⟨by omega, scanN_none hs3_ (by omega) (by unfold lWavesM_B3; (try simp only [he1_]); (try simp only [he2_]); (try simp only [he3_]); (try simp only [he5_]); (try rw [h51]); (try rw [h52]); (try rw [h53]); first | done | kernel_rfl)⟩, by omega, leG⟩
                ·
                 have h52' := of_decide_eq_false h52
                 refine AWp.dz [vi ((k3_ : Nat) : Int), vi (ofM ((k3_ : Nat) : Int)), vi ((k2_ : Nat) : Int), vi (ofM ((k2_ : Nat) : Int)), vb false, vb false, .tuple [], .tuple [], .tuple [], .tuple [], .tuple [], .tuple [], .tuple [], vb false] 163 [(5, .ptr 1 0), (9, .rv (.sl 6 (((newM h f v).1).map Update.cells))), (11, .rv (.sl 6 (a1_0.map Update.cells))), (14, .rv (.sl 6 ((stepM a1_0 f e1_).map Update.cells))), (15, vi ((k2_ : Nat) : Int)), (55, .rv (.sl 5 (os.map Op51.cells))), (56, vi ((os.length : Nat) : Int)), (57, vi ((k1_ : Nat) : Int)), (75, .rv (.sl 6 ((stepM a1_0 f e1_).map Update.cells))), (76, vi (((stepM a1_0 f e1_).length : Nat) : Int)), (77, vi ((k2_ : Nat) : Int)), (140, vi ((((stepM a1_0 f e1_).take k2_).length : Nat) : Int)), (141, vi ((k3_ : Nat) : Int)), (157, vb false)] [(1, .box 28 (avs (Firmware.cells f)))] 4 ?_ ?_
                 ·
                  refine DSteps.cons (DStep.va) ?_
                  refine DSteps.cons (DStep.call rfl (by kernel_rfl) (by kernel_rfl) (by kernel_rfl) (args := [vi ((k3_ : Nat) : Int)]) (by kernel_rfl) (by kernel_rfl) (ofM_ok ((k3_ : Nat) : Int) (by first | (with_reducible first | assumption | exact home_dev (by assumption) | exact hv1_.2 | exact Good.len hv1_.2 | exact Good.fit hv1_.2) | omega | (have := hv1_.2.len; have := hv1_.1; have := stepM_len a1_0 f e1_; simp only [List.length_take] at *; omega))) (by kernel_rfl) (Nat.le_of_ble_eq_true (by kernel_rfl))) ?_
                  refine DSteps.cons (DStep.va) ?_
                  refine DSteps.cons (DStep.call rfl (by kernel_rfl) (by kernel_rfl) (by kernel_rfl) (args := [vi ((k2_ : Nat) : Int)]) (by kernel_rfl) (by kernel_rfl) (ofM_ok ((k2_ : Nat) : Int) (by first | (with_reducible first | assumption | exact home_dev (by assumption) | exact hv1_.2 | exact Good.len hv1_.2 | exact Good.fit hv1_.2) | omega | (have := hv1_.2.len; have := hv1_.1; have := stepM_len a1_0 f e1_; simp only [List.length_take] at *; omega))) (by kernel_rfl) (Nat.le_of_ble_eq_true (by kernel_rfl))) ?_
                  refine DSteps.cons ((DStep.val (v := vb (decide (ofM ((k3_ : Nat) : Int) < ofM ((k2_ : Nat) : Int)))) (by kernel_rfl) (by kernel_rfl)).cast (congrArg vb h52)) ?_
                  refine DSteps.cons (DStep.va) ?_
                  refine DSteps.cons (DStep.skip (by kernel_rfl)) ?_
                  refine DSteps.cons (DStep.skip (by kernel_rfl)) ?_
                  refine DSteps.cons (DStep.skip (by kernel_rfl)) ?_
                  refine DSteps.cons (DStep.skip (by kernel_rfl)) ?_
                  refine DSteps.cons (DStep.skip (by kernel_rfl)) ?_
                  refine DSteps.cons (DStep.skip (by kernel_rfl)) ?_
                  refine DSteps.cons (DStep.skip (by kernel_rfl)) ?_
                  refine DSteps.cons (DStep.va) ?_
                  exact DSteps.nl
                 refine AWp.cndF ?_
                 refine AWp.skip ?_
                 refine AWp.he [.cast (vi (IntKind.i64.wrap (((k3_ : Nat) : Int) + 1))) (vi ((k3_ + 1 : Nat) : Int)) (congrArg vi (wrap_nat (by omega))), .run 1] 163 [(5, .ptr 1 0), (9, .rv (.sl 6 (((newM h f v).1).map Update.cells))), (11, .rv (.sl 6 (a1_0.map Update.cells))), (14, .rv (.sl 6 ((stepM a1_0 f e1_).map Update.cells))), (15, vi ((k2_ : Nat) : Int)), (55, .rv (.sl 5 (os.map Op51.cells))), (56, vi ((os.length : Nat) : Int)), (57, vi ((k1_ : Nat) : Int)), (75, .rv (.sl 6 ((stepM a1_0 f e1_).map Update.cells))), (76, vi (((stepM a1_0 f e1_).length : Nat) : Int)), (77, vi ((k2_ : Nat) : Int)), (140, vi ((((stepM a1_0 f e1_).take k2_).length : Nat) : Int)), (141, vi ((k3_ + 1 : Nat) : Int))] [(1, .box 28 (avs (Firmware.cells f)))] 4 ?_
                 exact ⟨k3_ + 1, ⟨by omega, scanN_none hs3_ (by omega) (by unfold lWavesM_B3; (try simp only [he1_]); (try simp only [he2_]); (try simp only [he3_]); (try rw [h51]); (try rw [h52]); first | done | kernel_rfl)⟩, by omega, leG⟩
               ·
                have h51' := of_decide_eq_false h51
                refine AWp.exit ?_
                have hL3_ : lWavesM_L3 h f v os a1_0 k2_ e1_ = none := scanN_end hs3_ (by omega)
                refine AWp.he [.cast (vi (IntKind.i64.wrap (((k2_ : Nat) : Int) + 1))) (vi ((k2_ + 1 : Nat) : Int)) (congrArg vi (wrap_nat (by omega))), .run 1] 163 [(5, .ptr 1 0), (9, .rv (.sl 6 (((newM h f v).1).map Update.cells))), (11, .rv (.sl 6 (a1_0.map Update.cells))), (14, .rv (.sl 6 ((stepM a1_0 f e1_).map Update.cells))), (55, .rv (.sl 5 (os.map Op51.cells))), (56, vi ((os.length : Nat) : Int)), (57, vi ((k1_ : Nat) : Int)), (75, .rv (.sl 6 ((stepM a1_0 f e1_).map Update.cells))), (76, vi (((stepM a1_0 f e1_).length : Nat) : Int)), (77, vi ((k2_ + 1 : Nat) : Int))] [(1, .box 28 (avs (Firmware.cells f)))] 4 ?_
                exact ⟨k2_ + 1, ⟨by omega, scanN_none hs2_ (by omega) (by unfold lWavesM_B2; (try simp only [he1_]); (try simp only [he2_]); (try simp only [he3_]); (try rw [h19]); (try rw [h20]); (try rw [hg21]); (try rw [h48]); (try rw [h49]); (try rw [hL3_]); first | done | kernel_rfl)⟩, by omega, leG⟩
        ·
         have h19' := of_decide_eq_false h19
         refine AWp.exit ?_
         have hL2_ : lWavesM_L2 h f v os a1_0 e1_ = none := scanN_end hs2_ (by omega)
         refine AWp.he [.run 2] 163 [(5, .ptr 1 0), (9, .rv (.sl 6 (((newM h f v).1).map Update.cells))), (11, .rv (.sl 6 ((stepM a1_0 f e1_).map Update.cells))), (55, .rv (.sl 5 (os.map Op51.cells))), (56, vi ((os.length : Nat) : Int)), (57, vi ((k1_ : Nat) : Int))] [(1, .box 28 (avs (Firmware.cells f)))] 3 ?_
         refine AWp.he [.cast (vi (IntKind.i64.wrap (((k1_ : Nat) : Int) + 1))) (vi ((k1_ + 1 : Nat) : Int)) (congrArg vi (wrap_nat (by omega))), .run 1] 163 [(5, .ptr 1 0), (9, .rv (.sl 6 (((newM h f v).1).map Update.cells))), (11, .rv (.sl 6 ((stepM a1_0 f e1_).map Update.cells))), (55, .rv (.sl 5 (os.map Op51.cells))), (56, vi ((os.length : Nat) : Int)), (57, vi ((k1_ + 1 : Nat) : Int))] [(1, .box 28 (avs (Firmware.cells f)))] 3 ?_
         exact ⟨(k1_ + 1, (stepM a1_0 f e1_)), ⟨by show k1_ + 1 ≤ _; omega, loopS_next hs1_ (by omega) (by unfold lWavesM_B1; (try dsimp only); (try simp only [he1_]); (try rw [h12]); (try rw [h14]); (try rw [h17]); (try rw [hL2_]); first | done | kernel_rfl), by exact ⟨(stepM_len _ _ _).trans hv1_.1, stepM_good (by omega) hv1_.2⟩⟩, by show _ - (k1_ + 1) < _ - k1_; omega, leG⟩
     ·
      have h12' := of_decide_eq_false h12
      refine AWp.exit ?_
      have hq1_ : (lWavesM_L1 h f v os ((newM h f v).1)) = .inr (a1_0) := loopS_end hs1_ (by omega)
      exact ⟨(a1_0), hq1_, leG⟩
    ·
     rintro a1_0 hL1_
     refine AWp.hz [.call 9 [] (vb true) [] 0 (awake_ok), .run 1] 163 [(8, vb true)] [] 2 ?_
     refine AWp.ret ?_
     exact leafR (r := vb true) (by show (vb true : AV) = vb (lWavesM h f v os); unfold lWavesM; (try rw [h7]); (try rw [h8]); (try rw [hL1_]); (try dsimp only); first | done | kernel_rfl)
end Go.Proofs.Ytjgpnceaicijcaa
