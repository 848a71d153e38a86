/- The examples of the chapter: the contract. -/
import Derived.Test.YtjgpnceaicijcaaWB6
namespace Go.Proofs.Ytjgpnceaicijcaa
open Go Go.Av Go.Hh Go.Proofs
set_option maxRecDepth 100000
set_option maxHeartbeats 4000000
def awakeM_v1 (c : List Cluster) : List Update × Int := newM (⟨c, (([(⟨1, IntKind.u64.wrap 1, 1, false, 0, ⟨#[104, 97, 108, 108]⟩, [⟨#[111, 110, 111, 102, 102]⟩]⟩ : Dev)] ++ [(⟨2, IntKind.u64.wrap 2, 1, false, 0, ⟨#[104, 97, 108, 108]⟩, [⟨#[111, 110, 111, 102, 102]⟩]⟩ : Dev)]) ++ [(⟨3, IntKind.u64.wrap 3, 1, false, 0, ⟨#[104, 97, 108, 108]⟩, [⟨#[111, 110, 111, 102, 102]⟩]⟩ : Dev)])⟩ : Home) (⟨1, 3, [5, 6]⟩ : Firmware) ([(⟨3, 3⟩ : Pair)])
def awakeM_v2 (c : List Cluster) : List Pair := sendM (startM ((awakeM_v1 c).1) (⟨1, 3, [5, 6]⟩ : Firmware) 10) (⟨1, 3, [5, 6]⟩ : Firmware)
def awakeM_v3 (c : List Cluster) : List Update := haveM (startM ((awakeM_v1 c).1) (⟨1, 3, [5, 6]⟩ : Firmware) 10) (⟨1, 3, [5, 6]⟩ : Firmware) 1 ([true, false])
def awakeM_v4 (c : List Cluster) : List Update := haveM (awakeM_v3 c) (⟨1, 3, [5, 6]⟩ : Firmware) 1 ([true, true])
def awakeM_v5 (c : List Cluster) : List Update := confirmM (installM (awakeM_v4 c) (⟨1, 3, [5, 6]⟩ : Firmware) 1 20) 1 true 619
def awakeM_v6 (c : List Cluster) : List Update := startM (confirmM (awakeM_v5 c) 1 true 620) (⟨1, 3, [5, 6]⟩ : Firmware) 700
def awakeM_v7 (c : List Cluster) : List Update := haveM (awakeM_v6 c) (⟨1, 3, [5, 6]⟩ : Firmware) 2 ([true, true])
def awakeM_v8 (c : List Cluster) : List Update := confirmM (installM (awakeM_v7 c) (⟨1, 3, [5, 6]⟩ : Firmware) 2 800) 2 false 801
def awakeM (c : List Cluster) : Bool :=
  (bif ((((((awakeM_v1 c).2) != 0) || (((((awakeM_v1 c).1).length : Nat) : Int) != 3)) || (waveOfM ((awakeM_v1 c).1) (⟨1, 3, [5, 6]⟩ : Firmware) != 0)) || (!(samePairsM (awakeM_v2 c) ([(⟨1, 0⟩ : Pair)])) || (!(samePairsM (sendM (awakeM_v3 c) (⟨1, 3, [5, 6]⟩ : Firmware)) ([(⟨1, 1⟩ : Pair)])) || ((((awakeM_v5 c).length : Nat) : Int) != 3)))) then false else (match ((awakeM_v5 c))[0]? with | some e1_ => (bif ((e1_.status != 3) || ((e1_.version != 3) || ((((awakeM_v6 c).length : Nat) : Int) != 3))) then false else (match ((awakeM_v6 c))[0]? with | some e2_ => (bif (e2_.status != 4) then false else (match ((awakeM_v6 c))[1]? with | some e3_ => (bif (e3_.status != 1) then false else (match ((awakeM_v6 c))[2]? with | some e4_ => (bif ((e4_.status != 0) || ((waveOfM (awakeM_v6 c) (⟨1, 3, [5, 6]⟩ : Firmware) != 1) || !((((awakeM_v8 c).length : Nat) : Int) == 3))) then false else (match ((awakeM_v8 c))[1]? with | some e5_ => (((e5_.status == 5) && (e5_.version == 0)) && stoppedM (awakeM_v8 c)) | none => false)) | none => false)) | none => false)) | none => false)) | none => false))
theorem awakeM_ok (c : List Cluster) (hst : ACalls Try.prog G_ 29 [] [] 0 (fun r τ => r = .rv (.sl 4 (c.map Cluster.cells)) ∧ τ = [])) :
 ACalls Try.prog G_ 9 [] [] 0 (fun r τ => r = vb (awakeM c) ∧ τ = []) := by
 refine ACalls.body Try.func9 rfl 154 [] ?_
 refine AWp.hz [.run 1] 154 [] [] 0 ?_
 refine AWp.hz [.call 29 [] (.rv (.sl 4 (c.map Cluster.cells))) [] 0 (hst), .run 3] 154 [(1, .ptr 0 0)] [(0, .box 25 [.rv (.sl 4 (c.map Cluster.cells)), .rv (.v (.slice none 0 0))])] 1 ?_
 refine AWp.seq ?_
 refine AWp.hz [.run 1] 154 [(1, .ptr 0 0), (2, vi 1)] [(0, .box 25 [.rv (.sl 4 (c.map Cluster.cells)), .rv (.v (.slice none 0 0))])] 1 ?_
 refine AWp.block ?_
 refine AWp.rounds 9 ?_
 refine AR.rd 8 ?_
 refine AWp.seq ?_
 refine AWp.hz [.run 2] 154 [(1, .ptr 0 0), (2, vi 1), (9, vb true)] [(0, .box 25 [.rv (.sl 4 (c.map Cluster.cells)), .rv (.v (.slice none 0 0))])] 1 ?_
 refine AWp.cndT ?_
 refine AWp.skip ?_
 refine AWp.seq ?_
 refine AWp.block ?_
 refine AWp.he [.run 5, .lit 9 1 (List.map strC [⟨#[111, 110, 111, 102, 102]⟩]), .run 1, .lit 49 7 (List.map Dev.cells [(⟨1, IntKind.u64.wrap 1, 1, false, 0, ⟨#[104, 97, 108, 108]⟩, [⟨#[111, 110, 111, 102, 102]⟩]⟩ : Dev)]), .nrow 13 49 7, .app Dev.cells ([]) ([(⟨1, IntKind.u64.wrap 1, 1, false, 0, ⟨#[104, 97, 108, 108]⟩, [⟨#[111, 110, 111, 102, 102]⟩]⟩ : Dev)]) 1 49 7 80 (apSz (by first | (simp; done) | (simp; omega))), .run 2] 154 [(1, .ptr 0 0), (2, vi 1)] [(1, .row false 49 7 (([(⟨1, IntKind.u64.wrap 1, 1, false, 0, ⟨#[104, 97, 108, 108]⟩, [⟨#[111, 110, 111, 102, 102]⟩]⟩ : Dev)]).map Dev.cells)), (0, .box 25 [.rv (.sl 4 (c.map Cluster.cells)), .sl 1])] 2 ?_
 refine AWp.he [.run 3] 154 [(1, .ptr 0 0), (2, vi 2)] [(1, .row false 49 7 (([(⟨1, IntKind.u64.wrap 1, 1, false, 0, ⟨#[104, 97, 108, 108]⟩, [⟨#[111, 110, 111, 102, 102]⟩]⟩ : Dev)]).map Dev.cells)), (0, .box 25 [.rv (.sl 4 (c.map Cluster.cells)), .sl 1])] 2 ?_
 refine AR.rd 7 ?_
 refine AWp.seq ?_
 refine AWp.hz [.run 2] 154 [(1, .ptr 0 0), (2, vi 2), (9, vb true)] [(1, .row false 49 7 (([(⟨1, IntKind.u64.wrap 1, 1, false, 0, ⟨#[104, 97, 108, 108]⟩, [⟨#[111, 110, 111, 102, 102]⟩]⟩ : Dev)]).map Dev.cells)), (0, .box 25 [.rv (.sl 4 (c.map Cluster.cells)), .sl 1])] 2 ?_
 refine AWp.cndT ?_
 refine AWp.skip ?_
 refine AWp.seq ?_
 refine AWp.block ?_
 refine AWp.he [.run 5, .lit 9 1 (List.map strC [⟨#[111, 110, 111, 102, 102]⟩]), .run 1, .lit 49 7 (List.map Dev.cells [(⟨2, IntKind.u64.wrap 2, 1, false, 0, ⟨#[104, 97, 108, 108]⟩, [⟨#[111, 110, 111, 102, 102]⟩]⟩ : Dev)]), .app Dev.cells ([(⟨1, IntKind.u64.wrap 1, 1, false, 0, ⟨#[104, 97, 108, 108]⟩, [⟨#[111, 110, 111, 102, 102]⟩]⟩ : Dev)]) ([(⟨2, IntKind.u64.wrap 2, 1, false, 0, ⟨#[104, 97, 108, 108]⟩, [⟨#[111, 110, 111, 102, 102]⟩]⟩ : Dev)]) 1 49 7 80 (apSz (by first | (simp; done) | (simp; omega))), .run 2] 154 [(1, .ptr 0 0), (2, vi 2)] [(1, .row false 49 7 (([(⟨1, IntKind.u64.wrap 1, 1, false, 0, ⟨#[104, 97, 108, 108]⟩, [⟨#[111, 110, 111, 102, 102]⟩]⟩ : Dev)] ++ [(⟨2, IntKind.u64.wrap 2, 1, false, 0, ⟨#[104, 97, 108, 108]⟩, [⟨#[111, 110, 111, 102, 102]⟩]⟩ : Dev)]).map Dev.cells)), (0, .box 25 [.rv (.sl 4 (c.map Cluster.cells)), .sl 1])] 2 ?_
 refine AWp.he [.run 3] 154 [(1, .ptr 0 0), (2, vi 3)] [(1, .row false 49 7 (([(⟨1, IntKind.u64.wrap 1, 1, false, 0, ⟨#[104, 97, 108, 108]⟩, [⟨#[111, 110, 111, 102, 102]⟩]⟩ : Dev)] ++ [(⟨2, IntKind.u64.wrap 2, 1, false, 0, ⟨#[104, 97, 108, 108]⟩, [⟨#[111, 110, 111, 102, 102]⟩]⟩ : Dev)]).map Dev.cells)), (0, .box 25 [.rv (.sl 4 (c.map Cluster.cells)), .sl 1])] 2 ?_
 refine AR.rd 6 ?_
 refine AWp.seq ?_
 refine AWp.hz [.run 2] 154 [(1, .ptr 0 0), (2, vi 3), (9, vb true)] [(1, .row false 49 7 (([(⟨1, IntKind.u64.wrap 1, 1, false, 0, ⟨#[104, 97, 108, 108]⟩, [⟨#[111, 110, 111, 102, 102]⟩]⟩ : Dev)] ++ [(⟨2, IntKind.u64.wrap 2, 1, false, 0, ⟨#[104, 97, 108, 108]⟩, [⟨#[111, 110, 111, 102, 102]⟩]⟩ : Dev)]).map Dev.cells)), (0, .box 25 [.rv (.sl 4 (c.map Cluster.cells)), .sl 1])] 2 ?_
 refine AWp.cndT ?_
 refine AWp.skip ?_
 refine AWp.seq ?_
 refine AWp.block ?_
 refine AWp.he [.run 5, .lit 9 1 (List.map strC [⟨#[111, 110, 111, 102, 102]⟩]), .run 1, .lit 49 7 (List.map Dev.cells [(⟨3, IntKind.u64.wrap 3, 1, false, 0, ⟨#[104, 97, 108, 108]⟩, [⟨#[111, 110, 111, 102, 102]⟩]⟩ : Dev)]), .app Dev.cells ([(⟨1, IntKind.u64.wrap 1, 1, false, 0, ⟨#[104, 97, 108, 108]⟩, [⟨#[111, 110, 111, 102, 102]⟩]⟩ : Dev)] ++ [(⟨2, IntKind.u64.wrap 2, 1, false, 0, ⟨#[104, 97, 108, 108]⟩, [⟨#[111, 110, 111, 102, 102]⟩]⟩ : Dev)]) ([(⟨3, IntKind.u64.wrap 3, 1, false, 0, ⟨#[104, 97, 108, 108]⟩, [⟨#[111, 110, 111, 102, 102]⟩]⟩ : Dev)]) 1 49 7 80 (apSz (by first | (simp; done) | (simp; omega))), .run 2] 154 [(1, .ptr 0 0), (2, vi 3)] [(1, .row false 49 7 ((([(⟨1, IntKind.u64.wrap 1, 1, false, 0, ⟨#[104, 97, 108, 108]⟩, [⟨#[111, 110, 111, 102, 102]⟩]⟩ : Dev)] ++ [(⟨2, IntKind.u64.wrap 2, 1, false, 0, ⟨#[104, 97, 108, 108]⟩, [⟨#[111, 110, 111, 102, 102]⟩]⟩ : Dev)]) ++ [(⟨3, IntKind.u64.wrap 3, 1, false, 0, ⟨#[104, 97, 108, 108]⟩, [⟨#[111, 110, 111, 102, 102]⟩]⟩ : Dev)]).map Dev.cells)), (0, .box 25 [.rv (.sl 4 (c.map Cluster.cells)), .sl 1])] 2 ?_
 refine AWp.he [.run 3] 154 [(1, .ptr 0 0), (2, vi 4)] [(1, .row false 49 7 ((([(⟨1, IntKind.u64.wrap 1, 1, false, 0, ⟨#[104, 97, 108, 108]⟩, [⟨#[111, 110, 111, 102, 102]⟩]⟩ : Dev)] ++ [(⟨2, IntKind.u64.wrap 2, 1, false, 0, ⟨#[104, 97, 108, 108]⟩, [⟨#[111, 110, 111, 102, 102]⟩]⟩ : Dev)]) ++ [(⟨3, IntKind.u64.wrap 3, 1, false, 0, ⟨#[104, 97, 108, 108]⟩, [⟨#[111, 110, 111, 102, 102]⟩]⟩ : Dev)]).map Dev.cells)), (0, .box 25 [.rv (.sl 4 (c.map Cluster.cells)), .sl 1])] 2 ?_
 refine AR.rd 5 ?_
 refine AWp.seq ?_
 refine AWp.hz [.run 2] 154 [(1, .ptr 0 0), (2, vi 4), (9, vb false)] [(1, .row false 49 7 ((([(⟨1, IntKind.u64.wrap 1, 1, false, 0, ⟨#[104, 97, 108, 108]⟩, [⟨#[111, 110, 111, 102, 102]⟩]⟩ : Dev)] ++ [(⟨2, IntKind.u64.wrap 2, 1, false, 0, ⟨#[104, 97, 108, 108]⟩, [⟨#[111, 110, 111, 102, 102]⟩]⟩ : Dev)]) ++ [(⟨3, IntKind.u64.wrap 3, 1, false, 0, ⟨#[104, 97, 108, 108]⟩, [⟨#[111, 110, 111, 102, 102]⟩]⟩ : Dev)]).map Dev.cells)), (0, .box 25 [.rv (.sl 4 (c.map Cluster.cells)), .sl 1])] 2 ?_
 refine AWp.cndF ?_
 refine AWp.exit ?_
 refine AWp.hz [.lit 3 1 (List.map intC [5, 6]), .run 3] 154 [(1, .ptr 0 0), (3, .ptr 2 0)] [(2, .box 28 [vi 1, vi 3, .rv (.sl 1 (([5, 6]).map intC))]), (1, .row false 49 7 ((([(⟨1, IntKind.u64.wrap 1, 1, false, 0, ⟨#[104, 97, 108, 108]⟩, [⟨#[111, 110, 111, 102, 102]⟩]⟩ : Dev)] ++ [(⟨2, IntKind.u64.wrap 2, 1, false, 0, ⟨#[104, 97, 108, 108]⟩, [⟨#[111, 110, 111, 102, 102]⟩]⟩ : Dev)]) ++ [(⟨3, IntKind.u64.wrap 3, 1, false, 0, ⟨#[104, 97, 108, 108]⟩, [⟨#[111, 110, 111, 102, 102]⟩]⟩ : Dev)]).map Dev.cells)), (0, .box 25 [.rv (.sl 4 (c.map Cluster.cells)), .sl 1])] 3 ?_
 have hgd1 : Good ((awakeM_v1 c).1) := by unfold awakeM_v1; (repeat first | (with_reducible first | assumption | exact sums2 | apply startM_good | apply haveM_good | apply installM_good | apply confirmM_good | apply overdueM_good | apply newM_good) | exact Nat.le_of_ble_eq_true rfl)
 have hgd2 : Good ((awakeM_v1 c).1) := by unfold awakeM_v1; (repeat first | (with_reducible first | assumption | exact sums2 | apply startM_good | apply haveM_good | apply installM_good | apply confirmM_good | apply overdueM_good | apply newM_good) | exact Nat.le_of_ble_eq_true rfl)
 refine AWp.hz [.run 3, .lit 68 2 (List.map Pair.cells [(⟨3, 3⟩ : Pair)]), .frz 1, .call 10 [.agg [.rv (.sl 4 (c.map Cluster.cells)), .rv (.sl 7 ((([(⟨1, IntKind.u64.wrap 1, 1, false, 0, ⟨#[104, 97, 108, 108]⟩, [⟨#[111, 110, 111, 102, 102]⟩]⟩ : Dev)] ++ [(⟨2, IntKind.u64.wrap 2, 1, false, 0, ⟨#[104, 97, 108, 108]⟩, [⟨#[111, 110, 111, 102, 102]⟩]⟩ : Dev)]) ++ [(⟨3, IntKind.u64.wrap 3, 1, false, 0, ⟨#[104, 97, 108, 108]⟩, [⟨#[111, 110, 111, 102, 102]⟩]⟩ : Dev)]).map Dev.cells))], .agg [vi 1, vi 3, .rv (.sl 1 (([5, 6]).map intC))], .rv (.sl 2 (([(⟨3, 3⟩ : Pair)]).map Pair.cells))] (.tuple [.rv (.sl 6 (((awakeM_v1 c).1).map Update.cells)), vi ((awakeM_v1 c).2)]) [] 0 (newM_ok (⟨c, (([(⟨1, IntKind.u64.wrap 1, 1, false, 0, ⟨#[104, 97, 108, 108]⟩, [⟨#[111, 110, 111, 102, 102]⟩]⟩ : Dev)] ++ [(⟨2, IntKind.u64.wrap 2, 1, false, 0, ⟨#[104, 97, 108, 108]⟩, [⟨#[111, 110, 111, 102, 102]⟩]⟩ : Dev)]) ++ [(⟨3, IntKind.u64.wrap 3, 1, false, 0, ⟨#[104, 97, 108, 108]⟩, [⟨#[111, 110, 111, 102, 102]⟩]⟩ : Dev)])⟩ : Home) (⟨1, 3, [5, 6]⟩ : Firmware) ([(⟨3, 3⟩ : Pair)]) (by first | (with_reducible first | assumption | exact sums2 | exact Good.len (by assumption) | exact Good.fit (by assumption)) | omega | exact Nat.le_of_ble_eq_true rfl) (by first | (with_reducible first | assumption | exact sums2 | exact Good.len (by assumption) | exact Good.fit (by assumption)) | omega | exact Nat.le_of_ble_eq_true rfl)), .run 5] 154 [(3, .ptr 2 0), (4, .rv (.sl 6 (((awakeM_v1 c).1).map Update.cells))), (5, vi ((awakeM_v1 c).2))] [(2, .box 28 [vi 1, vi 3, .rv (.sl 1 (([5, 6]).map intC))])] 3 ?_
 refine AWp.seq ?_
 refine AWp.join (Z 154 [(3, .ptr 2 0), (4, .rv (.sl 6 (((awakeM_v1 c).1).map Update.cells))), (44, vb (((((awakeM_v1 c).2) != 0) || (((((awakeM_v1 c).1).length : Nat) : Int) != 3)) || (waveOfM ((awakeM_v1 c).1) (⟨1, 3, [5, 6]⟩ : Firmware) != 0)))] [(2, .box 28 [vi 1, vi 3, .rv (.sl 1 (([5, 6]).map intC))])] 3) ?_ ?_
 ·
  refine AWp.region ?_
  refine AOps.hg [.run 3] ((((awakeM_v1 c).2) != 0)) 154 (fun b_ => [(3, .ptr 2 0), (4, .rv (.sl 6 (((awakeM_v1 c).1).map Update.cells))), (34, vb b_)]) [(2, .box 28 [vi 1, vi 3, .rv (.sl 1 (([5, 6]).map intC))])] 3 (fun hg3 => ?_) (fun hg3 => ?_)
  ·
   refine AOps.he [.run 10] 154 [(3, .ptr 2 0), (4, .rv (.sl 6 (((awakeM_v1 c).1).map Update.cells))), (44, vb true)] [(2, .box 28 [vi 1, vi 3, .rv (.sl 1 (([5, 6]).map intC))])] 3 ?_
   exact leZ (by rw [hg3]; first | done | kernel_rfl)
  ·
   refine AOps.hzl [.run 1, .len Update.cells ((awakeM_v1 c).1) 6, .run 3] 154 [(3, .ptr 2 0), (4, .rv (.sl 6 (((awakeM_v1 c).1).map Update.cells))), (39, vb (((((awakeM_v1 c).1).length : Nat) : Int) != 3))] [(2, .box 28 [vi 1, vi 3, .rv (.sl 1 (([5, 6]).map intC))])] 3 (fun hl => ?_)
   obtain ⟨hn4, -⟩ := hl
   refine AOps.hg [] ((((((awakeM_v1 c).1).length : Nat) : Int) != 3)) 154 (fun b_ => [(3, .ptr 2 0), (4, .rv (.sl 6 (((awakeM_v1 c).1).map Update.cells))), (39, vb b_)]) [(2, .box 28 [vi 1, vi 3, .rv (.sl 1 (([5, 6]).map intC))])] 3 (fun hg5 => ?_) (fun hg5 => ?_)
   ·
    have hg5' := bne_t hg5
    refine AOps.he [.run 5] 154 [(3, .ptr 2 0), (4, .rv (.sl 6 (((awakeM_v1 c).1).map Update.cells))), (44, vb true)] [(2, .box 28 [vi 1, vi 3, .rv (.sl 1 (([5, 6]).map intC))])] 3 ?_
    exact leZ (by rw [hg3, hg5]; first | done | kernel_rfl)
   ·
    have hg5' := bne_f hg5
    refine AOps.he [.run 2, .call 14 [.rv (.sl 6 (((awakeM_v1 c).1).map Update.cells)), .agg [vi 1, vi 3, .rv (.sl 1 (([5, 6]).map intC))]] (vi (waveOfM ((awakeM_v1 c).1) (⟨1, 3, [5, 6]⟩ : Firmware))) [] 0 (waveOfM_ok ((awakeM_v1 c).1) (⟨1, 3, [5, 6]⟩ : Firmware) (by first | (with_reducible first | assumption | exact sums2 | exact Good.len (by assumption) | exact Good.fit (by assumption)) | omega | exact Nat.le_of_ble_eq_true rfl)), .run 2] 154 [(3, .ptr 2 0), (4, .rv (.sl 6 (((awakeM_v1 c).1).map Update.cells))), (44, vb (waveOfM ((awakeM_v1 c).1) (⟨1, 3, [5, 6]⟩ : Firmware) != 0))] [(2, .box 28 [vi 1, vi 3, .rv (.sl 1 (([5, 6]).map intC))])] 3 ?_
    exact leZ (by rw [hg3, hg5]; first | done | kernel_rfl)
 ·
  refine AWp.cnd ((((((awakeM_v1 c).2) != 0) || (((((awakeM_v1 c).1).length : Nat) : Int) != 3)) || (waveOfM ((awakeM_v1 c).1) (⟨1, 3, [5, 6]⟩ : Firmware) != 0))) (fun h6 => ?_) (fun h6 => ?_)
  ·
   refine AWp.hz [.run 1] 154 [(0, vb false)] [] 3 ?_
   refine AWp.ret ?_
   exact leafR (r := vb false) (by unfold awakeM; (try rw [h6]); first | done | kernel_rfl)
  ·
   have h6l := or_fl h6
   have h6ll := or_fl h6l
   have h6lr := or_fr h6l
   have h6lr' := bne_f h6lr
   have h6r := or_fr h6
   refine AWp.skip ?_
   have hgd7 : Good (startM ((awakeM_v1 c).1) (⟨1, 3, [5, 6]⟩ : Firmware) 10) := by (repeat first | (with_reducible first | assumption | exact sums2 | apply startM_good | apply haveM_good | apply installM_good | apply confirmM_good | apply overdueM_good | apply newM_good) | exact Nat.le_of_ble_eq_true rfl)
   refine AWp.hz [.run 2, .call 22 [.rv (.sl 6 (((awakeM_v1 c).1).map Update.cells)), .agg [vi 1, vi 3, .rv (.sl 1 (([5, 6]).map intC))], vi 10] (.rv (.sl 6 ((startM ((awakeM_v1 c).1) (⟨1, 3, [5, 6]⟩ : Firmware) 10).map Update.cells))) [] 0 (startM_ok ((awakeM_v1 c).1) (⟨1, 3, [5, 6]⟩ : Firmware) 10 (by first | (with_reducible first | assumption | exact sums2 | exact Good.len (by assumption) | exact Good.fit (by assumption)) | omega | exact Nat.le_of_ble_eq_true rfl) (by first | (with_reducible first | assumption | exact sums2 | exact Good.len (by assumption) | exact Good.fit (by assumption)) | omega | exact Nat.le_of_ble_eq_true rfl)), .run 1] 154 [(3, .ptr 2 0), (4, .rv (.sl 6 ((startM ((awakeM_v1 c).1) (⟨1, 3, [5, 6]⟩ : Firmware) 10).map Update.cells)))] [(2, .box 28 [vi 1, vi 3, .rv (.sl 1 (([5, 6]).map intC))])] 3 ?_
   refine AWp.seq ?_
   refine AWp.hz [.run 2, .call 19 [.rv (.sl 6 ((startM ((awakeM_v1 c).1) (⟨1, 3, [5, 6]⟩ : Firmware) 10).map Update.cells)), .agg [vi 1, vi 3, .rv (.sl 1 (([5, 6]).map intC))]] (.rv (.sl 2 ((awakeM_v2 c).map Pair.cells))) [] 0 (sendM_ok (startM ((awakeM_v1 c).1) (⟨1, 3, [5, 6]⟩ : Firmware) 10) (⟨1, 3, [5, 6]⟩ : Firmware) (by first | (with_reducible first | assumption | exact sums2 | exact Good.len (by assumption) | exact Good.fit (by assumption)) | omega | exact Nat.le_of_ble_eq_true rfl)), .run 1, .lit 68 2 (List.map Pair.cells [(⟨1, 0⟩ : Pair)]), .call 18 [.rv (.sl 2 ((awakeM_v2 c).map Pair.cells)), .rv (.sl 2 (([(⟨1, 0⟩ : Pair)]).map Pair.cells))] (vb (samePairsM (awakeM_v2 c) ([(⟨1, 0⟩ : Pair)]))) [] 0 (samePairsM_ok (awakeM_v2 c) ([(⟨1, 0⟩ : Pair)])), .run 1] 154 [(3, .ptr 2 0), (4, .rv (.sl 6 ((startM ((awakeM_v1 c).1) (⟨1, 3, [5, 6]⟩ : Firmware) 10).map Update.cells))), (54, vb (!(samePairsM (awakeM_v2 c) ([(⟨1, 0⟩ : Pair)]))))] [(2, .box 28 [vi 1, vi 3, .rv (.sl 1 (([5, 6]).map intC))])] 3 ?_
   refine AWp.cnd (!(samePairsM (awakeM_v2 c) ([(⟨1, 0⟩ : Pair)]))) (fun h8 => ?_) (fun h8 => ?_)
   ·
    refine AWp.hz [.run 1] 154 [(0, vb false)] [] 3 ?_
    refine AWp.ret ?_
    exact leafR (r := vb false) (by unfold awakeM; (try rw [h6]); (try rw [h8]); first | done | kernel_rfl)
   ·
    refine AWp.skip ?_
    have hgd9 : Good ((awakeM_v3 c)) := by unfold awakeM_v3; (repeat first | (with_reducible first | assumption | exact sums2 | apply startM_good | apply haveM_good | apply installM_good | apply confirmM_good | apply overdueM_good | apply newM_good) | exact Nat.le_of_ble_eq_true rfl)
    refine AWp.hz [.run 2, .lit 4 1 (List.map boolC [true, false]), .call 24 [.rv (.sl 6 ((startM ((awakeM_v1 c).1) (⟨1, 3, [5, 6]⟩ : Firmware) 10).map Update.cells)), .agg [vi 1, vi 3, .rv (.sl 1 (([5, 6]).map intC))], vi 1, .rv (.sl 1 (([true, false]).map boolC))] (.rv (.sl 6 ((awakeM_v3 c).map Update.cells))) [] 0 (haveM_ok (startM ((awakeM_v1 c).1) (⟨1, 3, [5, 6]⟩ : Firmware) 10) (⟨1, 3, [5, 6]⟩ : Firmware) 1 ([true, false]) (by first | (with_reducible first | assumption | exact sums2 | exact Good.len (by assumption) | exact Good.fit (by assumption)) | omega | exact Nat.le_of_ble_eq_true rfl) (by first | (with_reducible first | assumption | exact sums2 | exact Good.len (by assumption) | exact Good.fit (by assumption)) | omega | exact Nat.le_of_ble_eq_true rfl) (by first | (with_reducible first | assumption | exact sums2 | exact Good.len (by assumption) | exact Good.fit (by assumption)) | omega | exact Nat.le_of_ble_eq_true rfl)), .run 1] 154 [(3, .ptr 2 0), (4, .rv (.sl 6 ((awakeM_v3 c).map Update.cells)))] [(2, .box 28 [vi 1, vi 3, .rv (.sl 1 (([5, 6]).map intC))])] 3 ?_
    refine AWp.seq ?_
    refine AWp.hz [.run 2, .call 19 [.rv (.sl 6 ((awakeM_v3 c).map Update.cells)), .agg [vi 1, vi 3, .rv (.sl 1 (([5, 6]).map intC))]] (.rv (.sl 2 ((sendM (awakeM_v3 c) (⟨1, 3, [5, 6]⟩ : Firmware)).map Pair.cells))) [] 0 (sendM_ok (awakeM_v3 c) (⟨1, 3, [5, 6]⟩ : Firmware) (by first | (with_reducible first | assumption | exact sums2 | exact Good.len (by assumption) | exact Good.fit (by assumption)) | omega | exact Nat.le_of_ble_eq_true rfl)), .run 1, .lit 68 2 (List.map Pair.cells [(⟨1, 1⟩ : Pair)]), .call 18 [.rv (.sl 2 ((sendM (awakeM_v3 c) (⟨1, 3, [5, 6]⟩ : Firmware)).map Pair.cells)), .rv (.sl 2 (([(⟨1, 1⟩ : Pair)]).map Pair.cells))] (vb (samePairsM (sendM (awakeM_v3 c) (⟨1, 3, [5, 6]⟩ : Firmware)) ([(⟨1, 1⟩ : Pair)]))) [] 0 (samePairsM_ok (sendM (awakeM_v3 c) (⟨1, 3, [5, 6]⟩ : Firmware)) ([(⟨1, 1⟩ : Pair)])), .run 1] 154 [(3, .ptr 2 0), (4, .rv (.sl 6 ((awakeM_v3 c).map Update.cells))), (65, vb (!(samePairsM (sendM (awakeM_v3 c) (⟨1, 3, [5, 6]⟩ : Firmware)) ([(⟨1, 1⟩ : Pair)]))))] [(2, .box 28 [vi 1, vi 3, .rv (.sl 1 (([5, 6]).map intC))])] 3 ?_
    refine AWp.cnd (!(samePairsM (sendM (awakeM_v3 c) (⟨1, 3, [5, 6]⟩ : Firmware)) ([(⟨1, 1⟩ : Pair)]))) (fun h10 => ?_) (fun h10 => ?_)
    ·
     refine AWp.hz [.run 1] 154 [(0, vb false)] [] 3 ?_
     refine AWp.ret ?_
     exact leafR (r := vb false) (by unfold awakeM; (try rw [h6]); (try rw [h8]); (try rw [h10]); first | done | kernel_rfl)
    ·
     refine AWp.skip ?_
     have hgd11 : Good ((awakeM_v4 c)) := by unfold awakeM_v4; (repeat first | (with_reducible first | assumption | exact sums2 | apply startM_good | apply haveM_good | apply installM_good | apply confirmM_good | apply overdueM_good | apply newM_good) | exact Nat.le_of_ble_eq_true rfl)
     have hgd12 : Good (installM (awakeM_v4 c) (⟨1, 3, [5, 6]⟩ : Firmware) 1 20) := by (repeat first | (with_reducible first | assumption | exact sums2 | apply startM_good | apply haveM_good | apply installM_good | apply confirmM_good | apply overdueM_good | apply newM_good) | exact Nat.le_of_ble_eq_true rfl)
     refine AWp.dz [.rv (.sl 6 ((awakeM_v3 c).map Update.cells)), .agg [vi 1, vi 3, .rv (.sl 1 (([5, 6]).map intC))], .rv (.sl 1 (([true, true]).map boolC)), .rv (.sl 6 ((awakeM_v4 c).map Update.cells)), .agg [vi 1, vi 3, .rv (.sl 1 (([5, 6]).map intC))], .rv (.sl 6 ((installM (awakeM_v4 c) (⟨1, 3, [5, 6]⟩ : Firmware) 1 20).map Update.cells)), .rv (.sl 6 ((installM (awakeM_v4 c) (⟨1, 3, [5, 6]⟩ : Firmware) 1 20).map Update.cells))] 154 [(3, .ptr 2 0), (4, .rv (.sl 6 ((installM (awakeM_v4 c) (⟨1, 3, [5, 6]⟩ : Firmware) 1 20).map Update.cells)))] [(2, .box 28 [vi 1, vi 3, .rv (.sl 1 (([5, 6]).map intC))])] 3 ?_ ?_
     ·
      refine DSteps.cons (DStep.va) ?_
      refine DSteps.cons (DStep.va) ?_
      refine DSteps.cons (DStep.row (t := 4) (by kernel_rfl) (R_buildSliceC (es := List.map boolC [true, true]) rfl (by kernel_rfl))) ?_
      refine DSteps.cons (DStep.call rfl (by kernel_rfl) (by kernel_rfl) (by kernel_rfl) (args := [.rv (.sl 6 ((awakeM_v3 c).map Update.cells)), .agg [vi 1, vi 3, .rv (.sl 1 (([5, 6]).map intC))], vi 1, .rv (.sl 1 (([true, true]).map boolC))]) (by kernel_rfl) (by kernel_rfl) (haveM_ok (awakeM_v3 c) (⟨1, 3, [5, 6]⟩ : Firmware) 1 ([true, true]) (by first | (with_reducible first | assumption | exact sums2 | exact Good.len (by assumption) | exact Good.fit (by assumption)) | omega | exact Nat.le_of_ble_eq_true rfl) (by first | (with_reducible first | assumption | exact sums2 | exact Good.len (by assumption) | exact Good.fit (by assumption)) | omega | exact Nat.le_of_ble_eq_true rfl) (by first | (with_reducible first | assumption | exact sums2 | exact Good.len (by assumption) | exact Good.fit (by assumption)) | omega | exact Nat.le_of_ble_eq_true rfl)) (by kernel_rfl) (Nat.le_of_ble_eq_true (by kernel_rfl))) ?_
      refine DSteps.cons (DStep.va) ?_
      refine DSteps.cons (DStep.call rfl (by kernel_rfl) (by kernel_rfl) (by kernel_rfl) (args := [.rv (.sl 6 ((awakeM_v4 c).map Update.cells)), .agg [vi 1, vi 3, .rv (.sl 1 (([5, 6]).map intC))], vi 1, vi 20]) (by kernel_rfl) (by kernel_rfl) (installM_ok (awakeM_v4 c) (⟨1, 3, [5, 6]⟩ : Firmware) 1 20 (by first | (with_reducible first | assumption | exact sums2 | exact Good.len (by assumption) | exact Good.fit (by assumption)) | omega | exact Nat.le_of_ble_eq_true rfl) (by first | (with_reducible first | assumption | exact sums2 | exact Good.len (by assumption) | exact Good.fit (by assumption)) | omega | exact Nat.le_of_ble_eq_true rfl)) (by kernel_rfl) (Nat.le_of_ble_eq_true (by kernel_rfl))) ?_
      refine DSteps.cons (DStep.va) ?_
      exact DSteps.nl
     have hgd13 : Good ((awakeM_v5 c)) := by unfold awakeM_v5; (repeat first | (with_reducible first | assumption | exact sums2 | apply startM_good | apply haveM_good | apply installM_good | apply confirmM_good | apply overdueM_good | apply newM_good) | exact Nat.le_of_ble_eq_true rfl)
     refine AWp.hz [.run 1, .call 25 [.rv (.sl 6 ((installM (awakeM_v4 c) (⟨1, 3, [5, 6]⟩ : Firmware) 1 20).map Update.cells)), vi 1, vb true, vi 619] (.rv (.sl 6 ((awakeM_v5 c).map Update.cells))) [] 0 (confirmM_ok (installM (awakeM_v4 c) (⟨1, 3, [5, 6]⟩ : Firmware) 1 20) 1 true 619 (by first | (with_reducible first | assumption | exact sums2 | exact Good.len (by assumption) | exact Good.fit (by assumption)) | omega | exact Nat.le_of_ble_eq_true rfl) (by first | (with_reducible first | assumption | exact sums2 | exact Good.len (by assumption) | exact Good.fit (by assumption)) | omega | exact Nat.le_of_ble_eq_true rfl)), .run 1] 154 [(3, .ptr 2 0), (4, .rv (.sl 6 ((awakeM_v5 c).map Update.cells)))] [(2, .box 28 [vi 1, vi 3, .rv (.sl 1 (([5, 6]).map intC))])] 3 ?_
     refine AWp.seq ?_
     refine AWp.rg ?_
     refine AOps.hzl [.run 1, .len Update.cells (awakeM_v5 c) 6, .run 2] 154 [(3, .ptr 2 0), (4, .rv (.sl 6 ((awakeM_v5 c).map Update.cells))), (77, vb ((((awakeM_v5 c).length : Nat) : Int) != 3))] [(2, .box 28 [vi 1, vi 3, .rv (.sl 1 (([5, 6]).map intC))])] 3 (fun hl => ?_)
     obtain ⟨hn14, -⟩ := hl
     refine AOps.hg [] (((((awakeM_v5 c).length : Nat) : Int) != 3)) 154 (fun b_ => [(3, .ptr 2 0), (4, .rv (.sl 6 ((awakeM_v5 c).map Update.cells))), (77, vb b_)]) [(2, .box 28 [vi 1, vi 3, .rv (.sl 1 (([5, 6]).map intC))])] 3 (fun hg15 => ?_) (fun hg15 => ?_)
     ·
      have hg15' := bne_t hg15
      refine AOps.he [.run 13] 154 [(3, .ptr 2 0), (4, .rv (.sl 6 ((awakeM_v5 c).map Update.cells))), (90, vb true)] [(2, .box 28 [vi 1, vi 3, .rv (.sl 1 (([5, 6]).map intC))])] 3 ?_
      refine AWp.cndT ?_
      refine AWp.hz [.run 1] 154 [(0, vb false)] [] 3 ?_
      refine AWp.ret ?_
      exact leafR (r := vb false) (by unfold awakeM; (try rw [h6]); (try rw [h8]); (try rw [h10]); (try rw [hg15]); first | done | kernel_rfl)
     ·
      have hg15' := bne_f hg15
      obtain ⟨e1_, he1_⟩ := getEx (l := (awakeM_v5 c)) (j := 0) (by omega)
      refine AOps.hg [.run 1, .idx Update.cells (awakeM_v5 c) 6 0 e1_ he1_, .run 5] ((e1_.status != 3)) 154 (fun b_ => [(3, .ptr 2 0), (4, .rv (.sl 6 ((awakeM_v5 c).map Update.cells))), (84, vb b_)]) [(2, .box 28 [vi 1, vi 3, .rv (.sl 1 (([5, 6]).map intC))])] 3 (fun hg16 => ?_) (fun hg16 => ?_)
      ·
       refine AOps.he [.run 6] 154 [(3, .ptr 2 0), (4, .rv (.sl 6 ((awakeM_v5 c).map Update.cells))), (90, vb true)] [(2, .box 28 [vi 1, vi 3, .rv (.sl 1 (([5, 6]).map intC))])] 3 ?_
       refine AWp.cndT ?_
       refine AWp.hz [.run 1] 154 [(0, vb false)] [] 3 ?_
       refine AWp.ret ?_
       exact leafR (r := vb false) (by unfold awakeM; (try simp only [he1_]); (try rw [h6]); (try rw [h8]); (try rw [h10]); (try rw [hg15]); (try rw [hg16]); first | done | kernel_rfl)
      ·
       refine AOps.he [.run 1, .idx Update.cells (awakeM_v5 c) 6 0 e1_ he1_, .run 4] 154 [(3, .ptr 2 0), (4, .rv (.sl 6 ((awakeM_v5 c).map Update.cells))), (90, vb (e1_.version != 3))] [(2, .box 28 [vi 1, vi 3, .rv (.sl 1 (([5, 6]).map intC))])] 3 ?_
       refine AWp.cnd ((e1_.version != 3)) (fun h17 => ?_) (fun h17 => ?_)
       ·
        refine AWp.hz [.run 1] 154 [(0, vb false)] [] 3 ?_
        refine AWp.ret ?_
        exact leafR (r := vb false) (by unfold awakeM; (try simp only [he1_]); (try rw [h6]); (try rw [h8]); (try rw [h10]); (try rw [hg15]); (try rw [hg16]); (try rw [h17]); first | done | kernel_rfl)
       ·
        refine AWp.skip ?_
        have hgd18 : Good (confirmM (awakeM_v5 c) 1 true 620) := by (repeat first | (with_reducible first | assumption | exact sums2 | apply startM_good | apply haveM_good | apply installM_good | apply confirmM_good | apply overdueM_good | apply newM_good) | exact Nat.le_of_ble_eq_true rfl)
        have hgd19 : Good ((awakeM_v6 c)) := by unfold awakeM_v6; (repeat first | (with_reducible first | assumption | exact sums2 | apply startM_good | apply haveM_good | apply installM_good | apply confirmM_good | apply overdueM_good | apply newM_good) | exact Nat.le_of_ble_eq_true rfl)
        refine AWp.dz [.rv (.sl 6 ((awakeM_v5 c).map Update.cells)), .rv (.sl 6 ((confirmM (awakeM_v5 c) 1 true 620).map Update.cells)), .agg [vi 1, vi 3, .rv (.sl 1 (([5, 6]).map intC))], .rv (.sl 6 ((awakeM_v6 c).map Update.cells)), .rv (.sl 6 ((awakeM_v6 c).map Update.cells))] 154 [(3, .ptr 2 0), (4, .rv (.sl 6 ((awakeM_v6 c).map Update.cells)))] [(2, .box 28 [vi 1, vi 3, .rv (.sl 1 (([5, 6]).map intC))])] 3 ?_ ?_
        ·
         refine DSteps.cons (DStep.va) ?_
         refine DSteps.cons (DStep.call rfl (by kernel_rfl) (by kernel_rfl) (by kernel_rfl) (args := [.rv (.sl 6 ((awakeM_v5 c).map Update.cells)), vi 1, vb true, vi 620]) (by kernel_rfl) (by kernel_rfl) (confirmM_ok (awakeM_v5 c) 1 true 620 (by first | (with_reducible first | assumption | exact sums2 | exact Good.len (by assumption) | exact Good.fit (by assumption)) | omega | exact Nat.le_of_ble_eq_true rfl) (by first | (with_reducible first | assumption | exact sums2 | exact Good.len (by assumption) | exact Good.fit (by assumption)) | omega | exact Nat.le_of_ble_eq_true rfl)) (by kernel_rfl) (Nat.le_of_ble_eq_true (by kernel_rfl))) ?_
         refine DSteps.cons (DStep.va) ?_
         refine DSteps.cons (DStep.call rfl (by kernel_rfl) (by kernel_rfl) (by kernel_rfl) (args := [.rv (.sl 6 ((confirmM (awakeM_v5 c) 1 true 620).map Update.cells)), .agg [vi 1, vi 3, .rv (.sl 1 (([5, 6]).map intC))], vi 700]) (by kernel_rfl) (by kernel_rfl) (startM_ok (confirmM (awakeM_v5 c) 1 true 620) (⟨1, 3, [5, 6]⟩ : Firmware) 700 (by first | (with_reducible first | assumption | exact sums2 | exact Good.len (by assumption) | exact Good.fit (by assumption)) | omega | exact Nat.le_of_ble_eq_true rfl) (by first | (with_reducible first | assumption | exact sums2 | exact Good.len (by assumption) | exact Good.fit (by assumption)) | omega | exact Nat.le_of_ble_eq_true rfl)) (by kernel_rfl) (Nat.le_of_ble_eq_true (by kernel_rfl))) ?_
         refine DSteps.cons (DStep.va) ?_
         exact DSteps.nl
        refine AWp.seq ?_
        refine AWp.rg ?_
        refine AOps.hzl [.run 1, .len Update.cells (awakeM_v6 c) 6, .run 2] 154 [(3, .ptr 2 0), (4, .rv (.sl 6 ((awakeM_v6 c).map Update.cells))), (98, vb ((((awakeM_v6 c).length : Nat) : Int) != 3))] [(2, .box 28 [vi 1, vi 3, .rv (.sl 1 (([5, 6]).map intC))])] 3 (fun hl => ?_)
        obtain ⟨hn20, -⟩ := hl
        refine AOps.hg [] (((((awakeM_v6 c).length : Nat) : Int) != 3)) 154 (fun b_ => [(3, .ptr 2 0), (4, .rv (.sl 6 ((awakeM_v6 c).map Update.cells))), (98, vb b_)]) [(2, .box 28 [vi 1, vi 3, .rv (.sl 1 (([5, 6]).map intC))])] 3 (fun hg21 => ?_) (fun hg21 => ?_)
        ·
         have hg21' := bne_t hg21
         refine AOps.he [.run 26] 154 [(3, .ptr 2 0), (4, .rv (.sl 6 ((awakeM_v6 c).map Update.cells))), (124, vb true)] [(2, .box 28 [vi 1, vi 3, .rv (.sl 1 (([5, 6]).map intC))])] 3 ?_
         refine AWp.cndT ?_
         refine AWp.hz [.run 1] 154 [(0, vb false)] [] 3 ?_
         refine AWp.ret ?_
         exact leafR (r := vb false) (by unfold awakeM; (try simp only [he1_]); (try rw [h6]); (try rw [h8]); (try rw [h10]); (try rw [hg15]); (try rw [hg16]); (try rw [h17]); (try rw [hg21]); first | done | kernel_rfl)
        ·
         have hg21' := bne_f hg21
         obtain ⟨e2_, he2_⟩ := getEx (l := (awakeM_v6 c)) (j := 0) (by omega)
         refine AOps.hg [.run 1, .idx Update.cells (awakeM_v6 c) 6 0 e2_ he2_, .run 5] ((e2_.status != 4)) 154 (fun b_ => [(3, .ptr 2 0), (4, .rv (.sl 6 ((awakeM_v6 c).map Update.cells))), (105, vb b_)]) [(2, .box 28 [vi 1, vi 3, .rv (.sl 1 (([5, 6]).map intC))])] 3 (fun hg22 => ?_) (fun hg22 => ?_)
         ·
          refine AOps.he [.run 19] 154 [(3, .ptr 2 0), (4, .rv (.sl 6 ((awakeM_v6 c).map Update.cells))), (124, vb true)] [(2, .box 28 [vi 1, vi 3, .rv (.sl 1 (([5, 6]).map intC))])] 3 ?_
          refine AWp.cndT ?_
          refine AWp.hz [.run 1] 154 [(0, vb false)] [] 3 ?_
          refine AWp.ret ?_
          exact leafR (r := vb false) (by unfold awakeM; (try simp only [he1_]); (try simp only [he2_]); (try rw [h6]); (try rw [h8]); (try rw [h10]); (try rw [hg15]); (try rw [hg16]); (try rw [h17]); (try rw [hg21]); (try rw [hg22]); first | done | kernel_rfl)
         ·
          obtain ⟨e3_, he3_⟩ := getEx (l := (awakeM_v6 c)) (j := 1) (by omega)
          refine AOps.hg [.run 1, .idx Update.cells (awakeM_v6 c) 6 1 e3_ he3_, .run 5] ((e3_.status != 1)) 154 (fun b_ => [(3, .ptr 2 0), (4, .rv (.sl 6 ((awakeM_v6 c).map Update.cells))), (112, vb b_)]) [(2, .box 28 [vi 1, vi 3, .rv (.sl 1 (([5, 6]).map intC))])] 3 (fun hg23 => ?_) (fun hg23 => ?_)
          ·
           refine AOps.he [.run 12] 154 [(3, .ptr 2 0), (4, .rv (.sl 6 ((awakeM_v6 c).map Update.cells))), (124, vb true)] [(2, .box 28 [vi 1, vi 3, .rv (.sl 1 (([5, 6]).map intC))])] 3 ?_
           refine AWp.cndT ?_
           refine AWp.hz [.run 1] 154 [(0, vb false)] [] 3 ?_
           refine AWp.ret ?_
           exact leafR (r := vb false) (by unfold awakeM; (try simp only [he1_]); (try simp only [he2_]); (try simp only [he3_]); (try rw [h6]); (try rw [h8]); (try rw [h10]); (try rw [hg15]); (try rw [hg16]); (try rw [h17]); (try rw [hg21]); (try rw [hg22]); (try rw [hg23]); first | done | kernel_rfl)
          ·
           obtain ⟨e4_, he4_⟩ := getEx (l := (awakeM_v6 c)) (j := 2) (by omega)
           refine AOps.hg [.run 1, .idx Update.cells (awakeM_v6 c) 6 2 e4_ he4_, .run 5] ((e4_.status != 0)) 154 (fun b_ => [(3, .ptr 2 0), (4, .rv (.sl 6 ((awakeM_v6 c).map Update.cells))), (119, vb b_)]) [(2, .box 28 [vi 1, vi 3, .rv (.sl 1 (([5, 6]).map intC))])] 3 (fun hg24 => ?_) (fun hg24 => ?_)
           ·
            refine AOps.he [.run 5] 154 [(3, .ptr 2 0), (4, .rv (.sl 6 ((awakeM_v6 c).map Update.cells))), (124, vb true)] [(2, .box 28 [vi 1, vi 3, .rv (.sl 1 (([5, 6]).map intC))])] 3 ?_
            refine AWp.cndT ?_
            refine AWp.hz [.run 1] 154 [(0, vb false)] [] 3 ?_
            refine AWp.ret ?_
            exact leafR (r := vb false) (by unfold awakeM; (try simp only [he1_]); (try simp only [he2_]); (try simp only [he3_]); (try simp only [he4_]); (try rw [h6]); (try rw [h8]); (try rw [h10]); (try rw [hg15]); (try rw [hg16]); (try rw [h17]); (try rw [hg21]); (try rw [hg22]); (try rw [hg23]); (try rw [hg24]); first | done | kernel_rfl)
           ·
            refine AOps.he [.run 2, .call 14 [.rv (.sl 6 ((awakeM_v6 c).map Update.cells)), .agg [vi 1, vi 3, .rv (.sl 1 (([5, 6]).map intC))]] (vi (waveOfM (awakeM_v6 c) (⟨1, 3, [5, 6]⟩ : Firmware))) [] 0 (waveOfM_ok (awakeM_v6 c) (⟨1, 3, [5, 6]⟩ : Firmware) (by first | (with_reducible first | assumption | exact sums2 | exact Good.len (by assumption) | exact Good.fit (by assumption)) | omega | exact Nat.le_of_ble_eq_true rfl)), .run 2] 154 [(3, .ptr 2 0), (4, .rv (.sl 6 ((awakeM_v6 c).map Update.cells))), (124, vb (waveOfM (awakeM_v6 c) (⟨1, 3, [5, 6]⟩ : Firmware) != 1))] [(2, .box 28 [vi 1, vi 3, .rv (.sl 1 (([5, 6]).map intC))])] 3 ?_
            refine AWp.cnd ((waveOfM (awakeM_v6 c) (⟨1, 3, [5, 6]⟩ : Firmware) != 1)) (fun h25 => ?_) (fun h25 => ?_)
            ·
             refine AWp.hz [.run 1] 154 [(0, vb false)] [] 3 ?_
             refine AWp.ret ?_
             exact leafR (r := vb false) (by unfold awakeM; (try simp only [he1_]); (try simp only [he2_]); (try simp only [he3_]); (try simp only [he4_]); (try rw [h6]); (try rw [h8]); (try rw [h10]); (try rw [hg15]); (try rw [hg16]); (try rw [h17]); (try rw [hg21]); (try rw [hg22]); (try rw [hg23]); (try rw [hg24]); (try rw [h25]); first | done | kernel_rfl)
            ·
             refine AWp.skip ?_
             have hgd26 : Good ((awakeM_v7 c)) := by unfold awakeM_v7; (repeat first | (with_reducible first | assumption | exact sums2 | apply startM_good | apply haveM_good | apply installM_good | apply confirmM_good | apply overdueM_good | apply newM_good) | exact Nat.le_of_ble_eq_true rfl)
             have hgd27 : Good (installM (awakeM_v7 c) (⟨1, 3, [5, 6]⟩ : Firmware) 2 800) := by (repeat first | (with_reducible first | assumption | exact sums2 | apply startM_good | apply haveM_good | apply installM_good | apply confirmM_good | apply overdueM_good | apply newM_good) | exact Nat.le_of_ble_eq_true rfl)
             refine AWp.dz [.rv (.sl 6 ((awakeM_v6 c).map Update.cells)), .agg [vi 1, vi 3, .rv (.sl 1 (([5, 6]).map intC))], .rv (.sl 1 (([true, true]).map boolC)), .rv (.sl 6 ((awakeM_v7 c).map Update.cells)), .agg [vi 1, vi 3, .rv (.sl 1 (([5, 6]).map intC))], .rv (.sl 6 ((installM (awakeM_v7 c) (⟨1, 3, [5, 6]⟩ : Firmware) 2 800).map Update.cells)), .rv (.sl 6 ((installM (awakeM_v7 c) (⟨1, 3, [5, 6]⟩ : Firmware) 2 800).map Update.cells))] 154 [(4, .rv (.sl 6 ((installM (awakeM_v7 c) (⟨1, 3, [5, 6]⟩ : Firmware) 2 800).map Update.cells)))] [] 3 ?_ ?_
             ·
              refine DSteps.cons (DStep.va) ?_
              refine DSteps.cons (DStep.va) ?_
              refine DSteps.cons (DStep.row (t := 4) (by kernel_rfl) (R_buildSliceC (es := List.map boolC [true, true]) rfl (by kernel_rfl))) ?_
              refine DSteps.cons (DStep.call rfl (by kernel_rfl) (by kernel_rfl) (by kernel_rfl) (args := [.rv (.sl 6 ((awakeM_v6 c).map Update.cells)), .agg [vi 1, vi 3, .rv (.sl 1 (([5, 6]).map intC))], vi 2, .rv (.sl 1 (([true, true]).map boolC))]) (by kernel_rfl) (by kernel_rfl) (haveM_ok (awakeM_v6 c) (⟨1, 3, [5, 6]⟩ : Firmware) 2 ([true, true]) (by first | (with_reducible first | assumption | exact sums2 | exact Good.len (by assumption) | exact Good.fit (by assumption)) | omega | exact Nat.le_of_ble_eq_true rfl) (by first | (with_reducible first | assumption | exact sums2 | exact Good.len (by assumption) | exact Good.fit (by assumption)) | omega | exact Nat.le_of_ble_eq_true rfl) (by first | (with_reducible first | assumption | exact sums2 | exact Good.len (by assumption) | exact Good.fit (by assumption)) | omega | exact Nat.le_of_ble_eq_true rfl)) (by kernel_rfl) (Nat.le_of_ble_eq_true (by kernel_rfl))) ?_
              refine DSteps.cons (DStep.va) ?_
              refine DSteps.cons (DStep.call rfl (by kernel_rfl) (by kernel_rfl) (by kernel_rfl) (args := [.rv (.sl 6 ((awakeM_v7 c).map Update.cells)), .agg [vi 1, vi 3, .rv (.sl 1 (([5, 6]).map intC))], vi 2, vi 800]) (by kernel_rfl) (by kernel_rfl) (installM_ok (awakeM_v7 c) (⟨1, 3, [5, 6]⟩ : Firmware) 2 800 (by first | (with_reducible first | assumption | exact sums2 | exact Good.len (by assumption) | exact Good.fit (by assumption)) | omega | exact Nat.le_of_ble_eq_true rfl) (by first | (with_reducible first | assumption | exact sums2 | exact Good.len (by assumption) | exact Good.fit (by assumption)) | omega | exact Nat.le_of_ble_eq_true rfl)) (by kernel_rfl) (Nat.le_of_ble_eq_true (by kernel_rfl))) ?_
              refine DSteps.cons (DStep.va) ?_
              exact DSteps.nl
             have hgd28 : Good ((awakeM_v8 c)) := by unfold awakeM_v8; (repeat first | (with_reducible first | assumption | exact sums2 | apply startM_good | apply haveM_good | apply installM_good | apply confirmM_good | apply overdueM_good | apply newM_good) | exact Nat.le_of_ble_eq_true rfl)
             refine AWp.hz [.run 1, .call 25 [.rv (.sl 6 ((installM (awakeM_v7 c) (⟨1, 3, [5, 6]⟩ : Firmware) 2 800).map Update.cells)), vi 2, vb false, vi 801] (.rv (.sl 6 ((awakeM_v8 c).map Update.cells))) [] 0 (confirmM_ok (installM (awakeM_v7 c) (⟨1, 3, [5, 6]⟩ : Firmware) 2 800) 2 false 801 (by first | (with_reducible first | assumption | exact sums2 | exact Good.len (by assumption) | exact Good.fit (by assumption)) | omega | exact Nat.le_of_ble_eq_true rfl) (by first | (with_reducible first | assumption | exact sums2 | exact Good.len (by assumption) | exact Good.fit (by assumption)) | omega | exact Nat.le_of_ble_eq_true rfl)), .run 1] 154 [(4, .rv (.sl 6 ((awakeM_v8 c).map Update.cells)))] [] 3 ?_
             refine AWp.rg ?_
             refine AOps.hzl [.run 1, .len Update.cells (awakeM_v8 c) 6, .run 2] 154 [(4, .rv (.sl 6 ((awakeM_v8 c).map Update.cells))), (136, vb ((((awakeM_v8 c).length : Nat) : Int) == 3))] [] 3 (fun hl => ?_)
             obtain ⟨hn29, -⟩ := hl
             refine AOps.hg [] (((((awakeM_v8 c).length : Nat) : Int) == 3)) 154 (fun b_ => [(4, .rv (.sl 6 ((awakeM_v8 c).map Update.cells))), (136, vb b_)]) [] 3 (fun hg30 => ?_) (fun hg30 => ?_)
             ·
              have hg30' := beq_t hg30
              obtain ⟨e5_, he5_⟩ := getEx (l := (awakeM_v8 c)) (j := 1) (by omega)
              refine AOps.hg [.run 1, .idx Update.cells (awakeM_v8 c) 6 1 e5_ he5_, .run 5] ((e5_.status == 5)) 154 (fun b_ => [(4, .rv (.sl 6 ((awakeM_v8 c).map Update.cells))), (143, vb b_)]) [] 3 (fun hg31 => ?_) (fun hg31 => ?_)
              ·
               refine AOps.hg [.run 1, .idx Update.cells (awakeM_v8 c) 6 1 e5_ he5_, .run 5] ((e5_.version == 0)) 154 (fun b_ => [(4, .rv (.sl 6 ((awakeM_v8 c).map Update.cells))), (150, vb b_)]) [] 3 (fun hg32 => ?_) (fun hg32 => ?_)
               ·
                refine AOps.he [.run 1, .call 16 [.rv (.sl 6 ((awakeM_v8 c).map Update.cells))] (vb (stoppedM (awakeM_v8 c))) [] 0 (stoppedM_ok (awakeM_v8 c)), .run 2] 154 [(0, vb (stoppedM (awakeM_v8 c)))] [] 3 ?_
                refine AWp.ret ?_
                exact leafR (r := vb (stoppedM (awakeM_v8 c))) (by unfold awakeM; (try simp only [he1_]); (try simp only [he2_]); (try simp only [he3_]); (try simp only [he4_]); (try simp only [he5_]); (try rw [h6]); (try rw [h8]); (try rw [h10]); (try rw [hg15]); (try rw [hg16]); (try rw [h17]); (try rw [hg21]); (try rw [hg22]); (try rw [hg23]); (try rw [hg24]); (try rw [h25]); (try rw [hg30]); (try rw [hg31]); (try rw [hg32]); first | done | kernel_rfl)
               ·
                refine AOps.he [.run 4] 154 [(0, vb false)] [] 3 ?_
                refine AWp.ret ?_
                exact leafR (r := vb false) (by unfold awakeM; (try simp only [he1_]); (try simp only [he2_]); (try simp only [he3_]); (try simp only [he4_]); (try simp only [he5_]); (try rw [h6]); (try rw [h8]); (try rw [h10]); (try rw [hg15]); (try rw [hg16]); (try rw [h17]); (try rw [hg21]); (try rw [hg22]); (try rw [hg23]); (try rw [hg24]); (try rw [h25]); (try rw [hg30]); (try rw [hg31]); (try rw [hg32]); first | done | kernel_rfl)
              ·
               refine AOps.he [.run 11] 154 [(0, vb false)] [] 3 ?_
               refine AWp.ret ?_
               exact leafR (r := vb false) (by unfold awakeM; (try simp only [he1_]); (try simp only [he2_]); (try simp only [he3_]); (try simp only [he4_]); (try simp only [he5_]); (try rw [h6]); (try rw [h8]); (try rw [h10]); (try rw [hg15]); (try rw [hg16]); (try rw [h17]); (try rw [hg21]); (try rw [hg22]); (try rw [hg23]); (try rw [hg24]); (try rw [h25]); (try rw [hg30]); (try rw [hg31]); first | done | kernel_rfl)
             ·
              have hg30' := beq_f hg30
              refine AOps.he [.run 18] 154 [(0, vb false)] [] 3 ?_
              refine AWp.ret ?_
              exact leafR (r := vb false) (by unfold awakeM; (try simp only [he1_]); (try simp only [he2_]); (try simp only [he3_]); (try simp only [he4_]); (try rw [h6]); (try rw [h8]); (try rw [h10]); (try rw [hg15]); (try rw [hg16]); (try rw [h17]); (try rw [hg21]); (try rw [hg22]); (try rw [hg23]); (try rw [hg24]); (try rw [h25]); (try rw [hg30]); first | done | kernel_rfl)
end Go.Proofs.Ytjgpnceaicijcaa
