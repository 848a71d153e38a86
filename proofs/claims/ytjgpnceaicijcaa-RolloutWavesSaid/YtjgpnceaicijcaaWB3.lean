/- Rollout: lists of updates. -/
import Derived.Test.YtjgpnceaicijcaaWB2
namespace Go.Proofs.Ytjgpnceaicijcaa
open Go Go.Av Go.Hh Go.Proofs
set_option maxRecDepth 100000
set_option maxHeartbeats 4000000
def find1M (u : Update) (n : Int) : Bool :=
  (u.dev == n)
theorem find1M_ok (u : Update) (n : Int) :
 ACalls Try.prog G_ 65 [.agg (avs (Update.cells u)), .rv (.ptr [.v (.int .i64 n)])] [] 0 (fun r τ => r = vb (find1M u n) ∧ τ = []) := by
 refine ACalls.body Try.func65 rfl 8 [(0, .agg (avs (Update.cells u))), (1, .rv (.ptr [.v (.int .i64 n)]))] ?_
 refine AWp.hz [.run 2] 8 [(1, .rv (.ptr [.v (.int .i64 n)])), (2, .ptr 0 0)] [(0, .box 54 (avs (Update.cells u)))] 1 ?_
 refine AWp.hz [.run 5] 8 [(3, vb (u.dev == n))] [] 1 ?_
 refine AWp.ret ?_
 exact leafR (r := vb (u.dev == n)) (by unfold find1M; first | done | kernel_rfl)
def ixStopM_B1 (l : List Update) (k1_ : Nat) : Option Int :=
  (match (l)[k1_]? with | some e1_ => (bif stopped1M e1_ then some ((k1_ : Nat) : Int) else none) | none => none)
def ixStopM_L1 (l : List Update) : Option Int := scanN (ixStopM_B1 l) 0 l.length
def ixStopM (l : List Update) : Int :=
  (ixStopM_L1 l).getD (-1)
theorem ixStopM_ok (l : List Update) :
 ACalls Try.prog G_ 62 [.rv (.sl 6 (l.map Update.cells)), .fn (.func 40) [] []] [] 0 (fun r τ => r = vi (ixStopM l) ∧ τ = []) := by
 refine ACalls.body Try.func62 rfl 19 [(0, .rv (.sl 6 (l.map Update.cells))), (1, .fn (.func 40) [] [])] ?_
 refine AWp.hz [.run 1] 19 [(0, .rv (.sl 6 (l.map Update.cells))), (1, .fn (.func 40) [] [])] [] 0 ?_
 refine AWp.seq ?_
 refine AWp.hzl [.run 1, .len Update.cells l 6, .run 1] 19 [(0, .rv (.sl 6 (l.map Update.cells))), (1, .fn (.func 40) [] []), (7, vi ((l.length : Nat) : Int)), (8, vi 0)] [] 0 (fun hl => ?_)
 obtain ⟨hn1, -⟩ := hl
 refine AWp.block ?_
 refine AWp.loop (ι := Nat) (fun k1_ => Z 19 [(0, .rv (.sl 6 (l.map Update.cells))), (1, .fn (.func 40) [] []), (7, vi ((l.length : Nat) : Int)), (8, vi ((k1_ : Nat) : Int))] [] 0) (fun k1_ => k1_ ≤ l.length ∧ ixStopM_L1 l = scanN (ixStopM_B1 l) k1_ (l.length - k1_)) (fun k1_ => l.length - k1_) 0 leZ ⟨Nat.zero_le _, rfl⟩ ?_
 intro k1_ ⟨hk1_, hs1_⟩
 refine AWp.hz [.run 1] 19 [(0, .rv (.sl 6 (l.map Update.cells))), (1, .fn (.func 40) [] []), (7, vi ((l.length : Nat) : Int)), (8, vi ((k1_ : Nat) : Int)), (9, vb (decide (((k1_ : Nat) : Int) < ((l.length : Nat) : Int))))] [] 0 ?_
 refine AWp.seq ?_
 refine AWp.cnd (decide (((k1_ : Nat) : Int) < ((l.length : Nat) : Int))) (fun h2 => ?_) (fun h2 => ?_)
 ·
  have h2' := of_decide_eq_true h2
  refine AWp.skip ?_
  refine AWp.seq ?_
  refine AWp.block ?_
  refine AWp.hz [.run 2] 19 [(0, .rv (.sl 6 (l.map Update.cells))), (1, .fn (.func 40) [] []), (5, vi ((k1_ : Nat) : Int)), (7, vi ((l.length : Nat) : Int)), (8, vi ((k1_ : Nat) : Int))] [] 0 ?_
  obtain ⟨e1_, he1_⟩ := getEx (l := l) (j := k1_) (by omega)
  refine AWp.hz [.run 3, .idx Update.cells l 6 k1_ e1_ he1_, .run 1, .call 40 [.agg (avs (Update.cells e1_))] (vb (stopped1M e1_)) [] 0 (stopped1M_ok e1_)] 19 [(0, .rv (.sl 6 (l.map Update.cells))), (1, .fn (.func 40) [] []), (5, vi ((k1_ : Nat) : Int)), (7, vi ((l.length : Nat) : Int)), (8, vi ((k1_ : Nat) : Int)), (16, vb (stopped1M e1_))] [] 0 ?_
  refine AWp.cnd (stopped1M e1_) (fun h3 => ?_) (fun h3 => ?_)
  ·
   refine AWp.hz [.run 2] 19 [(4, vi ((k1_ : Nat) : Int))] [] 0 ?_
   refine AWp.ret ?_
   have hL1_ : ixStopM_L1 l = some ((k1_ : Nat) : Int) := scanN_some hs1_ (by omega) (by unfold ixStopM_B1; (try simp only [he1_]); (try rw [h2]); (try rw [h3]); first | done | kernel_rfl)
   exact leafR (r := vi ((k1_ : Nat) : Int)) (by unfold ixStopM; (try rw [hL1_]); first | done | kernel_rfl)
  ·
   refine AWp.skip ?_
   refine AWp.he [.cast (vi (IntKind.i64.wrap (((k1_ : Nat) : Int) + 1))) (vi ((k1_ + 1 : Nat) : Int)) (congrArg vi (wrap_nat (by omega))), .run 1] 19 [(0, .rv (.sl 6 (l.map Update.cells))), (1, .fn (.func 40) [] []), (7, vi ((l.length : Nat) : Int)), (8, vi ((k1_ + 1 : Nat) : Int))] [] 0 ?_
   exact ⟨k1_ + 1, ⟨by omega, scanN_none hs1_ (by omega) (by unfold ixStopM_B1; (try simp only [he1_]); (try rw [h2]); (try rw [h3]); first | done | kernel_rfl)⟩, by omega, leG⟩
 ·
  have h2' := of_decide_eq_false h2
  refine AWp.exit ?_
  have hL1_ : ixStopM_L1 l = none := scanN_end hs1_ (by omega)
  refine AWp.hz [.run 1] 19 [(4, vi (-1))] [] 0 ?_
  refine AWp.ret ?_
  exact leafR (r := vi (-1)) (by unfold ixStopM; (try rw [hL1_]); first | done | kernel_rfl)
def ctStopM (l : List Update) : Bool :=
  decide (ixStopM l ≥ 0)
theorem ctStopM_ok (l : List Update) :
 ACalls Try.prog G_ 39 [.rv (.sl 6 (l.map Update.cells)), .fn (.func 40) [] []] [] 0 (fun r τ => r = vb (ctStopM l) ∧ τ = []) := by
 refine ACalls.body Try.func39 rfl 9 [(0, .rv (.sl 6 (l.map Update.cells))), (1, .fn (.func 40) [] [])] ?_
 refine AWp.hz [.run 1] 9 [(0, .rv (.sl 6 (l.map Update.cells))), (1, .fn (.func 40) [] [])] [] 0 ?_
 refine AWp.hz [.run 2, .callB 62 [] [] [.rv (.sl 6 (l.map Update.cells)), .fn (.func 40) [] []] (vi (ixStopM l)) (ixStopM_ok l), .run 2] 9 [(4, vb (decide (ixStopM l ≥ 0)))] [] 0 ?_
 refine AWp.ret ?_
 exact leafR (r := vb (decide (ixStopM l ≥ 0))) (by unfold ctStopM; first | done | kernel_rfl)
def ixFindM_B1 (l : List Update) (n : Int) (k1_ : Nat) : Option Int :=
  (match (l)[k1_]? with | some e1_ => (bif find1M e1_ n then some ((k1_ : Nat) : Int) else none) | none => none)
def ixFindM_L1 (l : List Update) (n : Int) : Option Int := scanN (ixFindM_B1 l n) 0 l.length
def ixFindM (l : List Update) (n : Int) : Int :=
  (ixFindM_L1 l n).getD (-1)
theorem ixFindM_ok (l : List Update) (n : Int) :
 ACalls Try.prog G_ 62 [.rv (.sl 6 (l.map Update.cells)), .fn (.func 65) [] [.rv (.ptr [.v (.int .i64 n)])]] [] 0 (fun r τ => r = vi (ixFindM l n) ∧ τ = []) := by
 refine ACalls.body Try.func62 rfl 19 [(0, .rv (.sl 6 (l.map Update.cells))), (1, .fn (.func 65) [] [.rv (.ptr [.v (.int .i64 n)])])] ?_
 refine AWp.hz [.run 1] 19 [(0, .rv (.sl 6 (l.map Update.cells))), (1, .fn (.func 65) [] [.rv (.ptr [.v (.int .i64 n)])])] [] 0 ?_
 refine AWp.seq ?_
 refine AWp.hzl [.run 1, .len Update.cells l 6, .run 1] 19 [(0, .rv (.sl 6 (l.map Update.cells))), (1, .fn (.func 65) [] [.rv (.ptr [.v (.int .i64 n)])]), (7, vi ((l.length : Nat) : Int)), (8, vi 0)] [] 0 (fun hl => ?_)
 obtain ⟨hn1, -⟩ := hl
 refine AWp.block ?_
 refine AWp.loop (ι := Nat) (fun k1_ => Z 19 [(0, .rv (.sl 6 (l.map Update.cells))), (1, .fn (.func 65) [] [.rv (.ptr [.v (.int .i64 n)])]), (7, vi ((l.length : Nat) : Int)), (8, vi ((k1_ : Nat) : Int))] [] 0) (fun k1_ => k1_ ≤ l.length ∧ ixFindM_L1 l n = scanN (ixFindM_B1 l n) k1_ (l.length - k1_)) (fun k1_ => l.length - k1_) 0 leZ ⟨Nat.zero_le _, rfl⟩ ?_
 intro k1_ ⟨hk1_, hs1_⟩
 refine AWp.hz [.run 1] 19 [(0, .rv (.sl 6 (l.map Update.cells))), (1, .fn (.func 65) [] [.rv (.ptr [.v (.int .i64 n)])]), (7, vi ((l.length : Nat) : Int)), (8, vi ((k1_ : Nat) : Int)), (9, vb (decide (((k1_ : Nat) : Int) < ((l.length : Nat) : Int))))] [] 0 ?_
 refine AWp.seq ?_
 refine AWp.cnd (decide (((k1_ : Nat) : Int) < ((l.length : Nat) : Int))) (fun h2 => ?_) (fun h2 => ?_)
 ·
  have h2' := of_decide_eq_true h2
  refine AWp.skip ?_
  refine AWp.seq ?_
  refine AWp.block ?_
  refine AWp.hz [.run 2] 19 [(0, .rv (.sl 6 (l.map Update.cells))), (1, .fn (.func 65) [] [.rv (.ptr [.v (.int .i64 n)])]), (5, vi ((k1_ : Nat) : Int)), (7, vi ((l.length : Nat) : Int)), (8, vi ((k1_ : Nat) : Int))] [] 0 ?_
  obtain ⟨e1_, he1_⟩ := getEx (l := l) (j := k1_) (by omega)
  refine AWp.hz [.run 3, .idx Update.cells l 6 k1_ e1_ he1_, .run 1, .callB 65 [] [.rv (.ptr [.v (.int .i64 n)])] [.agg (avs (Update.cells e1_)), .rv (.ptr [.v (.int .i64 n)])] (vb (find1M e1_ n)) (find1M_ok e1_ n)] 19 [(0, .rv (.sl 6 (l.map Update.cells))), (1, .fn (.func 65) [] [.rv (.ptr [.v (.int .i64 n)])]), (5, vi ((k1_ : Nat) : Int)), (7, vi ((l.length : Nat) : Int)), (8, vi ((k1_ : Nat) : Int)), (16, vb (find1M e1_ n))] [] 0 ?_
  refine AWp.cnd (find1M e1_ n) (fun h3 => ?_) (fun h3 => ?_)
  ·
   refine AWp.hz [.run 2] 19 [(4, vi ((k1_ : Nat) : Int))] [] 0 ?_
   refine AWp.ret ?_
   have hL1_ : ixFindM_L1 l n = some ((k1_ : Nat) : Int) := scanN_some hs1_ (by omega) (by unfold ixFindM_B1; (try simp only [he1_]); (try rw [h2]); (try rw [h3]); first | done | kernel_rfl)
   exact leafR (r := vi ((k1_ : Nat) : Int)) (by unfold ixFindM; (try rw [hL1_]); first | done | kernel_rfl)
  ·
   refine AWp.skip ?_
   refine AWp.he [.cast (vi (IntKind.i64.wrap (((k1_ : Nat) : Int) + 1))) (vi ((k1_ + 1 : Nat) : Int)) (congrArg vi (wrap_nat (by omega))), .run 1] 19 [(0, .rv (.sl 6 (l.map Update.cells))), (1, .fn (.func 65) [] [.rv (.ptr [.v (.int .i64 n)])]), (7, vi ((l.length : Nat) : Int)), (8, vi ((k1_ + 1 : Nat) : Int))] [] 0 ?_
   exact ⟨k1_ + 1, ⟨by omega, scanN_none hs1_ (by omega) (by unfold ixFindM_B1; (try simp only [he1_]); (try rw [h2]); (try rw [h3]); first | done | kernel_rfl)⟩, by omega, leG⟩
 ·
  have h2' := of_decide_eq_false h2
  refine AWp.exit ?_
  have hL1_ : ixFindM_L1 l n = none := scanN_end hs1_ (by omega)
  refine AWp.hz [.run 1] 19 [(4, vi (-1))] [] 0 ?_
  refine AWp.ret ?_
  exact leafR (r := vi (-1)) (by unfold ixFindM; (try rw [hL1_]); first | done | kernel_rfl)
def stoppedM (l : List Update) : Bool :=
  ctStopM l
theorem stoppedM_ok (l : List Update) :
 ACalls Try.prog G_ 16 [.rv (.sl 6 (l.map Update.cells))] [] 0 (fun r τ => r = vb (stoppedM l) ∧ τ = []) := by
 refine ACalls.body Try.func16 rfl 5 [(0, .rv (.sl 6 (l.map Update.cells)))] ?_
 refine AWp.hz [.run 1] 5 [(0, .rv (.sl 6 (l.map Update.cells)))] [] 0 ?_
 refine AWp.hz [.run 1, .callB 39 [] [] [.rv (.sl 6 (l.map Update.cells)), .fn (.func 40) [] []] (vb (ctStopM l)) (ctStopM_ok l), .run 1] 5 [(2, vb (ctStopM l))] [] 0 ?_
 refine AWp.ret ?_
 exact leafR (r := vb (ctStopM l)) (by unfold stoppedM; first | done | kernel_rfl)
def rstoppedM_B1 (l : List Update) (k1_ : Nat) : Option Bool :=
  (match (l)[k1_]? with | some e1_ => (bif (e1_.status == 5) then some true else none) | none => none)
def rstoppedM_L1 (l : List Update) : Option Bool := scanN (rstoppedM_B1 l) 0 l.length
def rstoppedM (l : List Update) : Bool :=
  (rstoppedM_L1 l).getD false
def findM (l : List Update) (n s : Int) : Int :=
  (bif decide (ixFindM l n ≥ 0) then (match (l)[(ixFindM l n).toNat]? with | some e1_ => (bif (e1_.status != s) then -1 else ixFindM l n) | none => 0) else ixFindM l n)
theorem ixFindM_lt (l : List Update) (n : Int) : ixFindM l n < (l.length : Int) := by
  unfold ixFindM ixFindM_L1
  cases hs : scanN (ixFindM_B1 l n) 0 l.length with
  | none => show (-1 : Int) < _; omega
  | some r =>
    obtain ⟨j, _, h2, h3, _⟩ := scanN_get hs
    unfold ixFindM_B1 at h3
    simp only [Nat.zero_add] at h2
    rw [List.getElem?_eq_getElem h2] at h3
    simp only [cond_eq_ite] at h3
    split at h3
    · cases h3; show ((j : Nat) : Int) < _; omega
    · cases h3
theorem findM_ok (l : List Update) (n s : Int) :
 ACalls Try.prog G_ 43 [.rv (.sl 6 (l.map Update.cells)), vi n, vi s] [] 0 (fun r τ => r = vi (findM l n s) ∧ τ = []) := by
 refine ACalls.body Try.func43 rfl 23 [(0, .rv (.sl 6 (l.map Update.cells))), (1, vi n), (2, vi s)] ?_
 refine AWp.hz [.run 2] 23 [(0, .rv (.sl 6 (l.map Update.cells))), (2, vi s), (4, .ptr 0 0)] [(0, .box 3 [vi n])] 1 ?_
 refine AWp.hz [.run 1, .fnc, .callB 62 [] [] [.rv (.sl 6 (l.map Update.cells)), .fn (.func 65) [] [.rv (.ptr [.v (.int .i64 n)])]] (vi (ixFindM l n)) (ixFindM_ok l n), .run 1] 23 [(0, .rv (.sl 6 (l.map Update.cells))), (2, vi s), (7, vi (ixFindM l n))] [] 1 ?_
 refine AWp.seq ?_
 refine AWp.rg ?_
 refine AOps.hg [.run 3] (decide (ixFindM l n ≥ 0)) 23 (fun b_ => [(0, .rv (.sl 6 (l.map Update.cells))), (2, vi s), (7, vi (ixFindM l n)), (13, vb b_)]) [] 1 (fun hg1 => ?_) (fun hg1 => ?_)
 ·
  have hg1' := of_decide_eq_true hg1
  have := ixFindM_lt l n
  have ht2 : (ixFindM l n) = (((ixFindM l n).toNat : Nat) : Int) := (Int.toNat_of_nonneg (by omega)).symm
  obtain ⟨e1_, he1_⟩ := getEx (l := l) (j := (ixFindM l n).toNat) (by omega)
  refine AOps.he [.run 2, .slot 15 (vi (ixFindM l n)) (vi (((ixFindM l n).toNat : Nat) : Int)) (congrArg vi ht2), .idx Update.cells l 6 ((ixFindM l n).toNat) e1_ he1_, .run 5] 23 [(7, vi (ixFindM l n)), (21, vb (e1_.status != s))] [] 1 ?_
  refine AWp.cnd ((e1_.status != s)) (fun h3 => ?_) (fun h3 => ?_)
  ·
   refine AWp.hz [.run 1] 23 [(6, vi (-1))] [] 1 ?_
   refine AWp.ret ?_
   exact leafR (r := vi (-1)) (by unfold findM; (try simp only [he1_]); (try rw [hg1]); (try rw [h3]); first | done | kernel_rfl)
  ·
   refine AWp.skip ?_
   refine AWp.hz [.run 2] 23 [(6, vi (ixFindM l n))] [] 1 ?_
   refine AWp.ret ?_
   exact leafR (r := vi (ixFindM l n)) (by unfold findM; (try simp only [he1_]); (try rw [hg1]); (try rw [h3]); first | done | kernel_rfl)
 ·
  have hg1' := of_decide_eq_false hg1
  refine AOps.he [.run 8] 23 [(7, vi (ixFindM l n)), (21, vb false)] [] 1 ?_
  refine AWp.cndF ?_
  refine AWp.skip ?_
  refine AWp.hz [.run 2] 23 [(6, vi (ixFindM l n))] [] 1 ?_
  refine AWp.ret ?_
  exact leafR (r := vi (ixFindM l n)) (by unfold findM; (try rw [hg1]); first | done | kernel_rfl)
def rfindM_B1 (l : List Update) (n : Int) (k1_ : Nat) : Option Int :=
  (match (l)[k1_]? with | some e1_ => (bif (e1_.dev == n) then some ((k1_ : Nat) : Int) else none) | none => none)
def rfindM_L1 (l : List Update) (n : Int) : Option Int := scanN (rfindM_B1 l n) 0 l.length
def rfindM (l : List Update) (n : Int) : Int :=
  (rfindM_L1 l n).getD (-1)
def bIndexM_B1 (l : List Bool) (x : Bool) (k1_ : Nat) : Option Int :=
  (match (l)[k1_]? with | some e1_ => (bif (x == e1_) then some ((k1_ : Nat) : Int) else none) | none => none)
def bIndexM_L1 (l : List Bool) (x : Bool) : Option Int := scanN (bIndexM_B1 l x) 0 l.length
def bIndexM (l : List Bool) (x : Bool) : Int :=
  (bIndexM_L1 l x).getD (-1)
theorem bIndexM_ok (l : List Bool) (x : Bool) :
 ACalls Try.prog G_ 66 [.rv (.sl 1 (l.map boolC)), vb x] [] 0 (fun r τ => r = vi (bIndexM l x) ∧ τ = []) := by
 refine ACalls.body Try.func66 rfl 19 [(0, .rv (.sl 1 (l.map boolC))), (1, vb x)] ?_
 refine AWp.hz [.run 1] 19 [(0, .rv (.sl 1 (l.map boolC))), (1, vb x)] [] 0 ?_
 refine AWp.seq ?_
 refine AWp.hzl [.run 1, .len boolC l 1, .run 1] 19 [(0, .rv (.sl 1 (l.map boolC))), (1, vb x), (7, vi ((l.length : Nat) : Int)), (8, vi 0)] [] 0 (fun hl => ?_)
 obtain ⟨hn1, -⟩ := hl
 refine AWp.block ?_
 refine AWp.loop (ι := Nat) (fun k1_ => Z 19 [(0, .rv (.sl 1 (l.map boolC))), (1, vb x), (7, vi ((l.length : Nat) : Int)), (8, vi ((k1_ : Nat) : Int))] [] 0) (fun k1_ => k1_ ≤ l.length ∧ bIndexM_L1 l x = scanN (bIndexM_B1 l x) k1_ (l.length - k1_)) (fun k1_ => l.length - k1_) 0 leZ ⟨Nat.zero_le _, rfl⟩ ?_
 intro k1_ ⟨hk1_, hs1_⟩
 refine AWp.hz [.run 1] 19 [(0, .rv (.sl 1 (l.map boolC))), (1, vb x), (7, vi ((l.length : Nat) : Int)), (8, vi ((k1_ : Nat) : Int)), (9, vb (decide (((k1_ : Nat) : Int) < ((l.length : Nat) : Int))))] [] 0 ?_
 refine AWp.seq ?_
 refine AWp.cnd (decide (((k1_ : Nat) : Int) < ((l.length : Nat) : Int))) (fun h2 => ?_) (fun h2 => ?_)
 ·
  have h2' := of_decide_eq_true h2
  refine AWp.skip ?_
  refine AWp.seq ?_
  refine AWp.block ?_
  refine AWp.hz [.run 2] 19 [(0, .rv (.sl 1 (l.map boolC))), (1, vb x), (5, vi ((k1_ : Nat) : Int)), (7, vi ((l.length : Nat) : Int)), (8, vi ((k1_ : Nat) : Int))] [] 0 ?_
  obtain ⟨e1_, he1_⟩ := getEx (l := l) (j := k1_) (by omega)
  refine AWp.hz [.run 3, .idx boolC l 1 k1_ e1_ he1_, .run 2] 19 [(0, .rv (.sl 1 (l.map boolC))), (1, vb x), (5, vi ((k1_ : Nat) : Int)), (7, vi ((l.length : Nat) : Int)), (8, vi ((k1_ : Nat) : Int)), (16, vb (x == e1_))] [] 0 ?_
  refine AWp.cnd ((x == e1_)) (fun h3 => ?_) (fun h3 => ?_)
  ·
   refine AWp.hz [.run 2] 19 [(4, vi ((k1_ : Nat) : Int))] [] 0 ?_
   refine AWp.ret ?_
   have hL1_ : bIndexM_L1 l x = some ((k1_ : Nat) : Int) := scanN_some hs1_ (by omega) (by unfold bIndexM_B1; (try simp only [he1_]); (try rw [h2]); (try rw [h3]); first | done | kernel_rfl)
   exact leafR (r := vi ((k1_ : Nat) : Int)) (by unfold bIndexM; (try rw [hL1_]); first | done | kernel_rfl)
  ·
   refine AWp.skip ?_
   refine AWp.he [.cast (vi (IntKind.i64.wrap (((k1_ : Nat) : Int) + 1))) (vi ((k1_ + 1 : Nat) : Int)) (congrArg vi (wrap_nat (by omega))), .run 1] 19 [(0, .rv (.sl 1 (l.map boolC))), (1, vb x), (7, vi ((l.length : Nat) : Int)), (8, vi ((k1_ + 1 : Nat) : Int))] [] 0 ?_
   exact ⟨k1_ + 1, ⟨by omega, scanN_none hs1_ (by omega) (by unfold bIndexM_B1; (try simp only [he1_]); (try rw [h2]); (try rw [h3]); first | done | kernel_rfl)⟩, by omega, leG⟩
 ·
  have h2' := of_decide_eq_false h2
  refine AWp.exit ?_
  have hL1_ : bIndexM_L1 l x = none := scanN_end hs1_ (by omega)
  refine AWp.hz [.run 1] 19 [(4, vi (-1))] [] 0 ?_
  refine AWp.ret ?_
  exact leafR (r := vi (-1)) (by unfold bIndexM; (try rw [hL1_]); first | done | kernel_rfl)
def bContM (l : List Bool) (x : Bool) : Bool :=
  decide (bIndexM l x ≥ 0)
theorem bContM_ok (l : List Bool) (x : Bool) :
 ACalls Try.prog G_ 44 [.rv (.sl 1 (l.map boolC)), vb x] [] 0 (fun r τ => r = vb (bContM l x) ∧ τ = []) := by
 refine ACalls.body Try.func44 rfl 9 [(0, .rv (.sl 1 (l.map boolC))), (1, vb x)] ?_
 refine AWp.hz [.run 1] 9 [(0, .rv (.sl 1 (l.map boolC))), (1, vb x)] [] 0 ?_
 refine AWp.hz [.run 2, .call 66 [.rv (.sl 1 (l.map boolC)), vb x] (vi (bIndexM l x)) [] 0 (bIndexM_ok l x), .run 2] 9 [(4, vb (decide (bIndexM l x ≥ 0)))] [] 0 ?_
 refine AWp.ret ?_
 exact leafR (r := vb (decide (bIndexM l x ≥ 0))) (by unfold bContM; first | done | kernel_rfl)
def cloneBM (l : List Bool) : List Bool :=
  l
theorem cloneBM_ok (l : List Bool) (hw : l.length ≤ 1000000) :
 ACalls Try.prog G_ 64 [.rv (.sl 1 (l.map boolC))] [] 0 (fun r τ => r = .rv (.sl 1 ((cloneBM l).map boolC)) ∧ τ = []) := by
 refine ACalls.body Try.func64 rfl 8 [(0, .rv (.sl 1 (l.map boolC)))] ?_
 refine AWp.hz [.run 1] 8 [(0, .rv (.sl 1 (l.map boolC)))] [] 0 ?_
 refine AWp.seq ?_
 refine AWp.rg ?_
 refine AOps.hz [.run 1] 8 [(0, .rv (.sl 1 (l.map boolC))), (3, .rv (.sl 1 (l.map boolC)))] [] 0 ?_
 refine AOps.nilTest boolC l 1 rfl rfl (e := 4) (by kernel_rfl) (by kernel_rfl) (fun nb1 hnb1 => ?_)
 refine AOps.he [] 8 [(0, .rv (.sl 1 (l.map boolC))), (4, vb nb1)] [] 0 ?_
 refine AWp.cnd (nb1) (fun h2 => ?_) (fun h2 => ?_)
 ·
  refine AWp.hz [.run 1] 8 [(2, .rv (.v (.slice none 0 0)))] [] 0 ?_
  refine AWp.le (Le.nils (s' := Z 8 [(2, .rv (.sl 1 (([]).map boolC)))] [] 0) 2 [some 1] (by kernel_rfl)) ?_
  refine AWp.ret ?_
  exact leafR (r := .rv (.sl 1 (([]).map boolC))) (by show (.rv (.sl 1 (([]).map boolC)) : AV) = .rv (.sl 1 ((cloneBM l).map boolC)); unfold cloneBM; (try rw [hnb1 h2]); first | done | kernel_rfl)
 ·
  refine AWp.skip ?_
  refine AWp.hz [.row 4 1 [], .run 1, .app boolC ([]) l 0 4 1 1 (apSz (by simp; omega)), .run 1] 8 [(2, .sl 0)] [(0, .row false 4 1 (l.map boolC))] 1 ?_
  refine AWp.le (Le.frz _ 0) ?_
  refine AWp.cv 8 [(2, .rv (.sl 1 (l.map boolC)))] [] 1 ?_
  refine AWp.ret ?_
  exact leafR (r := .rv (.sl 1 (l.map boolC))) (by show (.rv (.sl 1 (l.map boolC)) : AV) = .rv (.sl 1 ((cloneBM l).map boolC)); unfold cloneBM; first | done | kernel_rfl)
def cloneUM (l : List Update) : List Update :=
  l
theorem cloneUM_ok (l : List Update) (hw : l.length ≤ 1000000) :
 ACalls Try.prog G_ 63 [.rv (.sl 6 (l.map Update.cells))] [] 0 (fun r τ => r = .sl 0 ∧ τ = [(0, .row false 54 6 ((cloneUM l).map Update.cells))]) := by
 refine ACalls.row0 (ps := []) rfl false (ACalls.body Try.func63 rfl 8 [(0, .rv (.sl 6 (l.map Update.cells)))] ?_)
 refine AWp.hz [.run 1] 8 [(0, .rv (.sl 6 (l.map Update.cells)))] [] 0 ?_
 refine AWp.seq ?_
 refine AWp.rg ?_
 refine AOps.hz [.run 1] 8 [(0, .rv (.sl 6 (l.map Update.cells))), (3, .rv (.sl 6 (l.map Update.cells)))] [] 0 ?_
 refine AOps.nilTest Update.cells l 6 rfl rfl (e := 54) (by kernel_rfl) (by kernel_rfl) (fun nb1 hnb1 => ?_)
 refine AOps.he [] 8 [(0, .rv (.sl 6 (l.map Update.cells))), (4, vb nb1)] [] 0 ?_
 refine AWp.cnd (nb1) (fun h2 => ?_) (fun h2 => ?_)
 ·
  refine AWp.hz [.run 1] 8 [(2, .rv (.v (.slice none 0 0)))] [] 0 ?_
  refine AWp.nrow 2 54 6 ?_
  refine AWp.ret ?_
  exact leafRow (k := 0) (es := ([])) (by show _ = List.map Update.cells (cloneUM l); unfold cloneUM; (try rw [hnb1 h2]); first | done | kernel_rfl)
 ·
  refine AWp.skip ?_
  refine AWp.hz [.row 54 6 [], .run 1, .app Update.cells ([]) l 0 54 6 64 (apSz (by simp; omega)), .run 1] 8 [(2, .sl 0)] [(0, .row false 54 6 (l.map Update.cells))] 1 ?_
  refine AWp.ret ?_
  exact leafRow (k := 0) (es := (l.map Update.cells)) (by show _ = List.map Update.cells (cloneUM l); unfold cloneUM; first | done | kernel_rfl)
def ownM_B1 (l : List Update) (k1_ : Nat) (x_ : (List Update)) : (List Update) :=
  match x_ with
  | (a1_0) => (match (a1_0)[k1_]? with | some e2_ => ((a1_0.set k1_ e2_)) | none => x_)
def ownM_L1 (l : List Update) (x_ : (List Update)) : (List Update) := iterN (ownM_B1 l) 0 l.length x_
def ownM (l : List Update) : List Update :=
  (ownM_L1 l (l))
theorem ownM_ok (l : List Update) (hl : l.length ≤ 1000000) (hh : ∀ u ∈ l, u.have_.length ≤ 1000000) :
 ACalls Try.prog G_ 41 [.rv (.sl 6 (l.map Update.cells))] [] 0 (fun r τ => r = .sl 0 ∧ τ = [(0, .row false 54 6 ((ownM l).map Update.cells))]) := by
 refine ACalls.row0 (ps := []) rfl false (ACalls.body Try.func41 rfl 24 [(0, .rv (.sl 6 (l.map Update.cells)))] ?_)
 refine AWp.hz [.run 1] 24 [(0, .rv (.sl 6 (l.map Update.cells)))] [] 0 ?_
 refine AWp.hz [.run 1, .call 63 [.rv (.sl 6 (l.map Update.cells))] (.sl 0) [(0, .row false 54 6 (l.map Update.cells))] 1 (cloneUM_ok l (by first | omega | assumption | exact hh _ (List.mem_of_getElem? (by assumption)) | exact hv1_ _ (List.mem_of_getElem? (by assumption)))), .run 1] 24 [(3, .sl 0)] [(0, .row false 54 6 (l.map Update.cells))] 1 ?_
 refine AWp.seq ?_
 refine AWp.hzl [.run 1, .lenR Update.cells l 0 6, .run 1] 24 [(3, .sl 0), (8, vi ((l.length : Nat) : Int)), (9, vi 0)] [(0, .row false 54 6 (l.map Update.cells))] 1 (fun hl => ?_)
 obtain ⟨hn1, -⟩ := hl
 refine AWp.joinE1 (A := (List Update)) (fun x_ => Z 24 [(3, .sl 0)] [(0, .row false 54 6 (x_.map Update.cells))] 1) (fun x_ => x_ = (ownM_L1 l (l)) ∧ x_.length = l.length) ?_ ?_
 ·
  refine AWp.block ?_
  refine AWp.loop (ι := Nat × ((List Update))) (fun x_ => Z 24 [(3, .sl 0), (8, vi ((l.length : Nat) : Int)), (9, vi ((x_.1 : Nat) : Int))] [(0, .row false 54 6 (x_.2.map Update.cells))] 1) (fun x_ => x_.1 ≤ l.length ∧ (ownM_L1 l (l)) = iterN (ownM_B1 l) x_.1 (l.length - x_.1) x_.2 ∧ x_.2.length = l.length ∧ ∀ u ∈ x_.2, u.have_.length ≤ 1000000) (fun x_ => l.length - x_.1) (0, (l)) leZ ⟨Nat.zero_le _, rfl, rfl, hh⟩ ?_
  rintro ⟨k1_, a1_0⟩ ⟨hk1_, hs1_, hl1_0, hv1_⟩
  try dsimp only at hk1_
  try dsimp only at hs1_
  try dsimp only at hl1_0
  try dsimp only at hv1_
  refine AWp.cv 24 [(3, .sl 0), (8, vi ((l.length : Nat) : Int)), (9, vi ((k1_ : Nat) : Int))] [(0, .row false 54 6 (a1_0.map Update.cells))] 1 ?_
  refine AWp.hz [.run 1] 24 [(3, .sl 0), (8, vi ((l.length : Nat) : Int)), (9, vi ((k1_ : Nat) : Int)), (10, vb (decide (((k1_ : Nat) : Int) < ((l.length : Nat) : Int))))] [(0, .row false 54 6 (a1_0.map Update.cells))] 1 ?_
  refine AWp.seq ?_
  refine AWp.cnd (decide (((k1_ : Nat) : Int) < ((l.length : Nat) : Int))) (fun h2 => ?_) (fun h2 => ?_)
  ·
   have h2' := of_decide_eq_true h2
   refine AWp.skip ?_
   refine AWp.seq ?_
   refine AWp.block ?_
   refine AWp.hz [.run 2] 24 [(3, .sl 0), (4, vi ((k1_ : Nat) : Int)), (8, vi ((l.length : Nat) : Int)), (9, vi ((k1_ : Nat) : Int))] [(0, .row false 54 6 (a1_0.map Update.cells))] 1 ?_
   have hi3 : k1_ < a1_0.length := by first | omega | (simp only [List.length_set]; omega)
   obtain ⟨e2_, he2_⟩ := getEx (l := a1_0) (j := k1_) (by omega)
   have hi4 : k1_ < a1_0.length := by first | omega | (simp only [List.length_set]; omega)
   refine AWp.he [.run 4, .idxR Update.cells a1_0 0 6 k1_ hi3, .run 1, .ldR1 Update.cells a1_0 0 6 k1_ 5 e2_ he2_, .call 64 [.rv (.sl 1 (e2_.have_.map boolC))] (.rv (.sl 1 (e2_.have_.map boolC))) [] 0 (cloneBM_ok e2_.have_ (by first | omega | assumption | exact hh _ (List.mem_of_getElem? (by assumption)) | exact hv1_ _ (List.mem_of_getElem? (by assumption)))), .idxR Update.cells a1_0 0 6 k1_ hi4, .run 1, .stR Update.cells a1_0 0 6 k1_ 5 e2_ e2_ he2_] 24 [(3, .sl 0), (8, vi ((l.length : Nat) : Int)), (9, vi ((k1_ : Nat) : Int))] [(0, .row false 54 6 ((a1_0.set k1_ e2_).map Update.cells))] 1 ?_
   refine AWp.he [.cast (vi (IntKind.i64.wrap (((k1_ : Nat) : Int) + 1))) (vi ((k1_ + 1 : Nat) : Int)) (congrArg vi (wrap_nat (by omega))), .run 1] 24 [(3, .sl 0), (8, vi ((l.length : Nat) : Int)), (9, vi ((k1_ + 1 : Nat) : Int))] [(0, .row false 54 6 ((a1_0.set k1_ e2_).map Update.cells))] 1 ?_
   exact ⟨(k1_ + 1, ((a1_0.set k1_ e2_))), ⟨by show k1_ + 1 ≤ _; omega, iterN_next hs1_ (by omega) (by unfold ownM_B1; (try dsimp only); (try simp only [he2_]); (try rw [h2]); first | done | kernel_rfl), by first | assumption | (simp only [List.length_set, List.length_append, List.length_cons, List.length_nil]; first | done | assumption | omega) | omega, by intro u hu; rcases List.mem_or_eq_of_mem_set hu with h | h <;> first | exact hv1_ u h | exact h ▸ hv1_ _ (List.mem_of_getElem? (by assumption))⟩, by show _ - (k1_ + 1) < _ - k1_; omega, leG⟩
  ·
   have h2' := of_decide_eq_false h2
   refine AWp.exit ?_
   have hq1_ : (a1_0) = (ownM_L1 l (l)) := iterN_end hs1_ (by omega)
   exact ⟨(a1_0), ⟨hq1_, by first | assumption | (simp only [List.length_set, List.length_append, List.length_cons, List.length_nil]; first | done | assumption | omega) | omega⟩, leG⟩
 ·
  rintro _ ⟨rfl, hl1_0⟩
  try dsimp only at hl1_0
  refine AWp.hz [.run 2] 24 [(2, .sl 0)] [(0, .row false 54 6 ((ownM_L1 l (l)).map Update.cells))] 1 ?_
  refine AWp.ret ?_
  exact leafRow (k := 0) (es := ((ownM_L1 l (l)).map Update.cells)) (by show _ = List.map Update.cells (ownM l); unfold ownM; first | done | kernel_rfl)
def waveOfM_B1 (l : List Update) (f : Firmware) (k1_ : Nat) : Option Int :=
  (match (l)[k1_]? with | some e1_ => (bif !(completeM e1_ f) then some (waveM ((k1_ : Nat) : Int)) else none) | none => none)
def waveOfM_L1 (l : List Update) (f : Firmware) : Option Int := scanN (waveOfM_B1 l f) 0 l.length
def waveOfM (l : List Update) (f : Firmware) : Int :=
  (bif (fwCheckM f != 0) then -1 else (waveOfM_L1 l f).getD (-1))
theorem waveOfM_ok (l : List Update) (f : Firmware) (hl : l.length ≤ 1000000) :
 ACalls Try.prog G_ 14 [.rv (.sl 6 (l.map Update.cells)), .agg (avs (Firmware.cells f))] [] 0 (fun r τ => r = vi (waveOfM l f) ∧ τ = []) := by
 refine ACalls.body Try.func14 rfl 24 [(0, .rv (.sl 6 (l.map Update.cells))), (1, .agg (avs (Firmware.cells f)))] ?_
 refine AWp.hz [.run 2] 24 [(0, .rv (.sl 6 (l.map Update.cells))), (3, .ptr 0 0)] [(0, .box 28 (avs (Firmware.cells f)))] 1 ?_
 refine AWp.seq ?_
 refine AWp.hz [.run 1, .call 31 [.agg (avs (Firmware.cells f))] (vi (fwCheckM f)) [] 0 (fwCheckM_ok f), .run 1] 24 [(0, .rv (.sl 6 (l.map Update.cells))), (3, .ptr 0 0), (9, vb (fwCheckM f != 0))] [(0, .box 28 (avs (Firmware.cells f)))] 1 ?_
 refine AWp.cnd ((fwCheckM f != 0)) (fun h1 => ?_) (fun h1 => ?_)
 ·
  refine AWp.hz [.run 1] 24 [(4, vi (-1))] [] 1 ?_
  refine AWp.ret ?_
  exact leafR (r := vi (-1)) (by unfold waveOfM; (try rw [h1]); first | done | kernel_rfl)
 ·
  refine AWp.skip ?_
  refine AWp.seq ?_
  refine AWp.hzl [.run 1, .len Update.cells l 6, .run 1] 24 [(3, .ptr 0 0), (10, .rv (.sl 6 (l.map Update.cells))), (11, vi ((l.length : Nat) : Int)), (12, vi 0)] [(0, .box 28 (avs (Firmware.cells f)))] 1 (fun hl => ?_)
  obtain ⟨hn2, -⟩ := hl
  refine AWp.block ?_
  refine AWp.loop (ι := Nat) (fun k1_ => Z 24 [(3, .ptr 0 0), (10, .rv (.sl 6 (l.map Update.cells))), (11, vi ((l.length : Nat) : Int)), (12, vi ((k1_ : Nat) : Int))] [(0, .box 28 (avs (Firmware.cells f)))] 1) (fun k1_ => k1_ ≤ l.length ∧ waveOfM_L1 l f = scanN (waveOfM_B1 l f) k1_ (l.length - k1_)) (fun k1_ => l.length - k1_) 0 leZ ⟨Nat.zero_le _, rfl⟩ ?_
  intro k1_ ⟨hk1_, hs1_⟩
  refine AWp.hz [.run 1] 24 [(3, .ptr 0 0), (10, .rv (.sl 6 (l.map Update.cells))), (11, vi ((l.length : Nat) : Int)), (12, vi ((k1_ : Nat) : Int)), (13, vb (decide (((k1_ : Nat) : Int) < ((l.length : Nat) : Int))))] [(0, .box 28 (avs (Firmware.cells f)))] 1 ?_
  refine AWp.seq ?_
  refine AWp.cnd (decide (((k1_ : Nat) : Int) < ((l.length : Nat) : Int))) (fun h3 => ?_) (fun h3 => ?_)
  ·
   have h3' := of_decide_eq_true h3
   refine AWp.skip ?_
   refine AWp.seq ?_
   refine AWp.block ?_
   obtain ⟨e1_, he1_⟩ := getEx (l := l) (j := k1_) (by omega)
   refine AWp.hz [.run 1, .idx Update.cells l 6 k1_ e1_ he1_, .run 4] 24 [(3, .ptr 0 0), (5, vi ((k1_ : Nat) : Int)), (6, .ptr 1 0), (10, .rv (.sl 6 (l.map Update.cells))), (11, vi ((l.length : Nat) : Int)), (12, vi ((k1_ : Nat) : Int))] [(1, .box 54 (avs (Update.cells e1_))), (0, .box 28 (avs (Firmware.cells f)))] 2 ?_
   refine AWp.hz [.run 2, .call 37 [.agg (avs (Update.cells e1_)), .agg (avs (Firmware.cells f))] (vb (completeM e1_ f)) [] 0 (completeM_ok e1_ f), .run 1] 24 [(3, .ptr 0 0), (5, vi ((k1_ : Nat) : Int)), (10, .rv (.sl 6 (l.map Update.cells))), (11, vi ((l.length : Nat) : Int)), (12, vi ((k1_ : Nat) : Int)), (20, vb (!(completeM e1_ f)))] [(0, .box 28 (avs (Firmware.cells f)))] 2 ?_
   refine AWp.cnd (!(completeM e1_ f)) (fun h4 => ?_) (fun h4 => ?_)
   ·
    refine AWp.hz [.run 1, .call 38 [vi ((k1_ : Nat) : Int)] (vi (waveM ((k1_ : Nat) : Int))) [] 0 (waveM_ok ((k1_ : Nat) : Int) (by first | omega | assumption | exact hh _ (List.mem_of_getElem? (by assumption)) | exact hv1_ _ (List.mem_of_getElem? (by assumption)))), .run 1] 24 [(4, vi (waveM ((k1_ : Nat) : Int)))] [] 2 ?_
    refine AWp.ret ?_
    have hL1_ : waveOfM_L1 l f = some (waveM ((k1_ : Nat) : Int)) := scanN_some hs1_ (by omega) (by unfold waveOfM_B1; (try simp only [he1_]); (try rw [h3]); (try rw [h4]); first | done | kernel_rfl)
    exact leafR (r := vi (waveM ((k1_ : Nat) : Int))) (by unfold waveOfM; (try rw [h1]); (try rw [hL1_]); first | done | kernel_rfl)
   ·
    refine AWp.skip ?_
    refine AWp.he [.cast (vi (IntKind.i64.wrap (((k1_ : Nat) : Int) + 1))) (vi ((k1_ + 1 : Nat) : Int)) (congrArg vi (wrap_nat (by omega))), .run 1] 24 [(3, .ptr 0 0), (10, .rv (.sl 6 (l.map Update.cells))), (11, vi ((l.length : Nat) : Int)), (12, vi ((k1_ + 1 : Nat) : Int))] [(0, .box 28 (avs (Firmware.cells f)))] 2 ?_
    exact ⟨k1_ + 1, ⟨by omega, scanN_none hs1_ (by omega) (by unfold waveOfM_B1; (try simp only [he1_]); (try rw [h3]); (try rw [h4]); first | done | kernel_rfl)⟩, by omega, leG⟩
  ·
   have h3' := of_decide_eq_false h3
   refine AWp.exit ?_
   have hL1_ : waveOfM_L1 l f = none := scanN_end hs1_ (by omega)
   refine AWp.hz [.run 1] 24 [(4, vi (-1))] [] 1 ?_
   refine AWp.ret ?_
   exact leafR (r := vi (-1)) (by unfold waveOfM; (try rw [h1]); (try rw [hL1_]); first | done | kernel_rfl)
def sendM_B2 (l : List Update) (f : Firmware) (e1_ : Update) (k2_ : Nat) (x_ : (List Pair)) : Step Unit ((List Pair)) :=
  match x_ with
  | (a2_0) => (bif decide (((k2_ : Nat) : Int) ≥ ((e1_.have_.length : Nat) : Int)) then .brk ((a2_0 ++ [(⟨e1_.dev, ((k2_ : Nat) : Int)⟩ : Pair)])) else (match (e1_.have_)[k2_]? with | some e2_ => (bif !e2_ then .brk ((a2_0 ++ [(⟨e1_.dev, ((k2_ : Nat) : Int)⟩ : Pair)])) else .nxt (a2_0)) | none => .nxt x_))
def sendM_L2 (l : List Update) (f : Firmware) (e1_ : Update) (x_ : (List Pair)) : (List Pair) := iterB (sendM_B2 l f e1_) 0 f.sums.length x_
def sendM_B1 (l : List Update) (f : Firmware) (k1_ : Nat) (x_ : (List Pair)) : (List Pair) :=
  match x_ with
  | (a1_0) => (match (l)[k1_]? with | some e1_ => (bif (e1_.status != 1) then (a1_0) else ((sendM_L2 l f e1_ (a1_0)))) | none => x_)
def sendM_L1 (l : List Update) (f : Firmware) (x_ : (List Pair)) : (List Pair) := iterN (sendM_B1 l f) 0 l.length x_
def sendM (l : List Update) (f : Firmware) : List Pair :=
  (bif (fwCheckM f != 0) then [] else (sendM_L1 l f ([])))
theorem sendM_L2_len (l : List Update) (f : Firmware) (e : Update) (x : List Pair) : (sendM_L2 l f e x).length ≤ x.length + 1 := by
  unfold sendM_L2
  refine iterB_inv (fun (a : List Pair) => a.length ≤ x.length) (fun (a : List Pair) => a.length ≤ x.length + 1) (fun a h => Nat.le_succ_of_le h) (fun k a a' ha hb => ?_) (fun k a a' ha hb => ?_) _ _ _ (Nat.le_refl _)
  all_goals
    unfold sendM_B2 at hb
    simp only [cond_eq_ite] at hb
    repeat' split at hb
    all_goals (cases hb <;> first | exact ha | (simp only [List.length_append, List.length_cons, List.length_nil]; omega))
theorem sendM_ok (l : List Update) (f : Firmware) (hl : l.length ≤ 1000000) :
 ACalls Try.prog G_ 19 [.rv (.sl 6 (l.map Update.cells)), .agg (avs (Firmware.cells f))] [] 0 (fun r τ => r = .rv (.sl 2 ((sendM l f).map Pair.cells)) ∧ τ = []) := by
 refine ACalls.body Try.func19 rfl 50 [(0, .rv (.sl 6 (l.map Update.cells))), (1, .agg (avs (Firmware.cells f)))] ?_
 refine AWp.hz [.run 2] 50 [(0, .rv (.sl 6 (l.map Update.cells))), (3, .ptr 0 0)] [(0, .box 28 (avs (Firmware.cells f)))] 1 ?_
 refine AWp.seq ?_
 refine AWp.hz [.run 1, .call 31 [.agg (avs (Firmware.cells f))] (vi (fwCheckM f)) [] 0 (fwCheckM_ok f), .run 1] 50 [(0, .rv (.sl 6 (l.map Update.cells))), (3, .ptr 0 0), (11, vb (fwCheckM f != 0))] [(0, .box 28 (avs (Firmware.cells f)))] 1 ?_
 refine AWp.cnd ((fwCheckM f != 0)) (fun h1 => ?_) (fun h1 => ?_)
 ·
  refine AWp.hz [.run 1] 50 [(4, .rv (.v (.slice none 0 0)))] [] 1 ?_
  refine AWp.le (Le.nils (s' := Z 50 [(4, .rv (.sl 2 (([]).map Pair.cells)))] [] 1) 4 [some 2] (by kernel_rfl)) ?_
  refine AWp.ret ?_
  exact leafR (r := .rv (.sl 2 (([]).map Pair.cells))) (by show (.rv (.sl 2 (([]).map Pair.cells)) : AV) = .rv (.sl 2 ((sendM l f).map Pair.cells)); unfold sendM; (try rw [h1]); first | done | kernel_rfl)
 ·
  refine AWp.skip ?_
  refine AWp.hz [.run 1] 50 [(0, .rv (.sl 6 (l.map Update.cells))), (3, .ptr 0 0), (5, .rv (.v (.slice none 0 0)))] [(0, .box 28 (avs (Firmware.cells f)))] 1 ?_
  refine AWp.seq ?_
  refine AWp.hzl [.run 1, .len Update.cells l 6, .run 1] 50 [(3, .ptr 0 0), (5, .rv (.v (.slice none 0 0))), (12, .rv (.sl 6 (l.map Update.cells))), (13, vi ((l.length : Nat) : Int)), (14, vi 0)] [(0, .box 28 (avs (Firmware.cells f)))] 1 (fun hl => ?_)
  obtain ⟨hn2, -⟩ := hl
  refine AWp.nrow 5 68 2 ?_
  refine AWp.joinE1 (A := (List Pair)) (fun x_ => Z 50 [(5, .sl 1)] [(1, .row false 68 2 (x_.map Pair.cells))] 2) (fun x_ => x_ = (sendM_L1 l f ([]))) ?_ ?_
  ·
   refine AWp.block ?_
   refine AWp.loop (ι := Nat × ((List Pair))) (fun x_ => Z 50 [(3, .ptr 0 0), (5, .sl 1), (12, .rv (.sl 6 (l.map Update.cells))), (13, vi ((l.length : Nat) : Int)), (14, vi ((x_.1 : Nat) : Int))] [(1, .row false 68 2 (x_.2.map Pair.cells)), (0, .box 28 (avs (Firmware.cells f)))] 2) (fun x_ => x_.1 ≤ l.length ∧ (sendM_L1 l f ([])) = iterN (sendM_B1 l f) x_.1 (l.length - x_.1) x_.2 ∧ x_.2.length ≤ x_.1) (fun x_ => l.length - x_.1) (0, ([])) leZ ⟨Nat.zero_le _, rfl, Nat.le_refl _⟩ ?_
   rintro ⟨k1_, a1_0⟩ ⟨hk1_, hs1_, hv1_⟩
   try dsimp only at hk1_
   try dsimp only at hs1_
   try dsimp only at hv1_
   refine AWp.cv 50 [(3, .ptr 0 0), (5, .sl 1), (12, .rv (.sl 6 (l.map Update.cells))), (13, vi ((l.length : Nat) : Int)), (14, vi ((k1_ : Nat) : Int))] [(1, .row false 68 2 (a1_0.map Pair.cells)), (0, .box 28 (avs (Firmware.cells f)))] 2 ?_
   refine AWp.hz [.run 1] 50 [(3, .ptr 0 0), (5, .sl 1), (12, .rv (.sl 6 (l.map Update.cells))), (13, vi ((l.length : Nat) : Int)), (14, vi ((k1_ : Nat) : Int)), (15, vb (decide (((k1_ : Nat) : Int) < ((l.length : Nat) : Int))))] [(1, .row false 68 2 (a1_0.map Pair.cells)), (0, .box 28 (avs (Firmware.cells f)))] 2 ?_
   refine AWp.seq ?_
   refine AWp.cnd (decide (((k1_ : Nat) : Int) < ((l.length : Nat) : Int))) (fun h3 => ?_) (fun h3 => ?_)
   ·
    have h3' := of_decide_eq_true h3
    refine AWp.skip ?_
    refine AWp.seq ?_
    refine AWp.block ?_
    obtain ⟨e1_, he1_⟩ := getEx (l := l) (j := k1_) (by omega)
    refine AWp.hz [.idx Update.cells l 6 k1_ e1_ he1_, .run 3] 50 [(3, .ptr 0 0), (5, .sl 1), (7, .ptr 2 0), (12, .rv (.sl 6 (l.map Update.cells))), (13, vi ((l.length : Nat) : Int)), (14, vi ((k1_ : Nat) : Int))] [(2, .box 54 (avs (Update.cells e1_))), (1, .row false 68 2 (a1_0.map Pair.cells)), (0, .box 28 (avs (Firmware.cells f)))] 3 ?_
    refine AWp.seq ?_
    refine AWp.hz [.run 3] 50 [(3, .ptr 0 0), (5, .sl 1), (7, .ptr 2 0), (12, .rv (.sl 6 (l.map Update.cells))), (13, vi ((l.length : Nat) : Int)), (14, vi ((k1_ : Nat) : Int)), (20, vb (e1_.status != 1))] [(2, .box 54 (avs (Update.cells e1_))), (1, .row false 68 2 (a1_0.map Pair.cells)), (0, .box 28 (avs (Firmware.cells f)))] 3 ?_
    refine AWp.cnd ((e1_.status != 1)) (fun h4 => ?_) (fun h4 => ?_)
    ·
     refine AWp.exit ?_
     refine AWp.he [.cast (vi (IntKind.i64.wrap (((k1_ : Nat) : Int) + 1))) (vi ((k1_ + 1 : Nat) : Int)) (congrArg vi (wrap_nat (by omega))), .run 1] 50 [(3, .ptr 0 0), (5, .sl 1), (12, .rv (.sl 6 (l.map Update.cells))), (13, vi ((l.length : Nat) : Int)), (14, vi ((k1_ + 1 : Nat) : Int))] [(1, .row false 68 2 (a1_0.map Pair.cells)), (0, .box 28 (avs (Firmware.cells f)))] 3 ?_
     exact ⟨(k1_ + 1, (a1_0)), ⟨by show k1_ + 1 ≤ _; omega, iterN_next hs1_ (by omega) (by unfold sendM_B1; (try dsimp only); (try simp only [he1_]); (try rw [h3]); (try rw [h4]); first | done | kernel_rfl), by first | exact Nat.le_succ_of_le (by assumption) | exact Nat.le_trans (sendM_L2_len _ _ _ _) (Nat.succ_le_succ (by assumption))⟩, by show _ - (k1_ + 1) < _ - k1_; omega, leG⟩
    ·
     refine AWp.skip ?_
     refine AWp.hzl [.run 2, .len intC f.sums 1, .run 1] 50 [(3, .ptr 0 0), (5, .sl 1), (7, .ptr 2 0), (12, .rv (.sl 6 (l.map Update.cells))), (13, vi ((l.length : Nat) : Int)), (14, vi ((k1_ : Nat) : Int)), (23, vi ((f.sums.length : Nat) : Int)), (24, vi 0)] [(2, .box 54 (avs (Update.cells e1_))), (1, .row false 68 2 (a1_0.map Pair.cells)), (0, .box 28 (avs (Firmware.cells f)))] 3 (fun hl => ?_)
     obtain ⟨hn5, -⟩ := hl
     refine AWp.joinE1 (A := (List Pair)) (fun x_ => Z 50 [(3, .ptr 0 0), (5, .sl 1), (12, .rv (.sl 6 (l.map Update.cells))), (13, vi ((l.length : Nat) : Int)), (14, vi ((k1_ : Nat) : Int))] [(1, .row false 68 2 (x_.map Pair.cells)), (0, .box 28 (avs (Firmware.cells f)))] 3) (fun x_ => x_ = (sendM_L2 l f e1_ (a1_0)) ∧ x_.length ≤ a1_0.length + f.sums.length) ?_ ?_
     ·
      refine AWp.block ?_
      refine AWp.loop (ι := Nat × ((List Pair))) (fun x_ => Z 50 [(3, .ptr 0 0), (5, .sl 1), (7, .ptr 2 0), (12, .rv (.sl 6 (l.map Update.cells))), (13, vi ((l.length : Nat) : Int)), (14, vi ((k1_ : Nat) : Int)), (23, vi ((f.sums.length : Nat) : Int)), (24, vi ((x_.1 : Nat) : Int))] [(2, .box 54 (avs (Update.cells e1_))), (1, .row false 68 2 (x_.2.map Pair.cells)), (0, .box 28 (avs (Firmware.cells f)))] 3) (fun x_ => x_.1 ≤ f.sums.length ∧ (sendM_L2 l f e1_ (a1_0)) = iterB (sendM_B2 l f e1_) x_.1 (f.sums.length - x_.1) x_.2 ∧ x_.2.length ≤ a1_0.length + x_.1 ∧ x_.2.length ≤ 999999) (fun x_ => f.sums.length - x_.1) (0, (a1_0)) leZ ⟨Nat.zero_le _, rfl, Nat.le_refl _, by (try dsimp only); omega⟩ ?_
      rintro ⟨k2_, a2_0⟩ ⟨hk2_, hs2_, hl2_0, hv2_⟩
      try dsimp only at hk2_
      try dsimp only at hs2_
      try dsimp only at hl2_0
      try dsimp only at hv2_
      refine AWp.cv 50 [(3, .ptr 0 0), (5, .sl 1), (7, .ptr 2 0), (12, .rv (.sl 6 (l.map Update.cells))), (13, vi ((l.length : Nat) : Int)), (14, vi ((k1_ : Nat) : Int)), (23, vi ((f.sums.length : Nat) : Int)), (24, vi ((k2_ : Nat) : Int))] [(2, .box 54 (avs (Update.cells e1_))), (1, .row false 68 2 (a2_0.map Pair.cells)), (0, .box 28 (avs (Firmware.cells f)))] 3 ?_
      refine AWp.hz [.run 1] 50 [(3, .ptr 0 0), (5, .sl 1), (7, .ptr 2 0), (12, .rv (.sl 6 (l.map Update.cells))), (13, vi ((l.length : Nat) : Int)), (14, vi ((k1_ : Nat) : Int)), (23, vi ((f.sums.length : Nat) : Int)), (24, vi ((k2_ : Nat) : Int)), (25, vb (decide (((k2_ : Nat) : Int) < ((f.sums.length : Nat) : Int))))] [(2, .box 54 (avs (Update.cells e1_))), (1, .row false 68 2 (a2_0.map Pair.cells)), (0, .box 28 (avs (Firmware.cells f)))] 3 ?_
      refine AWp.seq ?_
      refine AWp.cnd (decide (((k2_ : Nat) : Int) < ((f.sums.length : Nat) : Int))) (fun h6 => ?_) (fun h6 => ?_)
      ·
       have h6' := of_decide_eq_true h6
       refine AWp.skip ?_
       refine AWp.seq ?_
       refine AWp.block ?_
       refine AWp.hz [.run 2] 50 [(3, .ptr 0 0), (5, .sl 1), (7, .ptr 2 0), (8, vi ((k2_ : Nat) : Int)), (12, .rv (.sl 6 (l.map Update.cells))), (13, vi ((l.length : Nat) : Int)), (14, vi ((k1_ : Nat) : Int)), (23, vi ((f.sums.length : Nat) : Int)), (24, vi ((k2_ : Nat) : Int))] [(2, .box 54 (avs (Update.cells e1_))), (1, .row false 68 2 (a2_0.map Pair.cells)), (0, .box 28 (avs (Firmware.cells f)))] 3 ?_
       refine AWp.rg ?_
       refine AOps.hzl [.run 3, .len boolC e1_.have_ 1, .run 2] 50 [(3, .ptr 0 0), (5, .sl 1), (7, .ptr 2 0), (8, vi ((k2_ : Nat) : Int)), (12, .rv (.sl 6 (l.map Update.cells))), (13, vi ((l.length : Nat) : Int)), (14, vi ((k1_ : Nat) : Int)), (23, vi ((f.sums.length : Nat) : Int)), (24, vi ((k2_ : Nat) : Int)), (32, vb (decide (((k2_ : Nat) : Int) ≥ ((e1_.have_.length : Nat) : Int))))] [(2, .box 54 (avs (Update.cells e1_))), (1, .row false 68 2 (a2_0.map Pair.cells)), (0, .box 28 (avs (Firmware.cells f)))] 3 (fun hl => ?_)
       obtain ⟨hn7, -⟩ := hl
       refine AOps.hg [] (decide (((k2_ : Nat) : Int) ≥ ((e1_.have_.length : Nat) : Int))) 50 (fun b_ => [(3, .ptr 0 0), (5, .sl 1), (7, .ptr 2 0), (8, vi ((k2_ : Nat) : Int)), (12, .rv (.sl 6 (l.map Update.cells))), (13, vi ((l.length : Nat) : Int)), (14, vi ((k1_ : Nat) : Int)), (23, vi ((f.sums.length : Nat) : Int)), (24, vi ((k2_ : Nat) : Int)), (32, vb b_)]) [(2, .box 54 (avs (Update.cells e1_))), (1, .row false 68 2 (a2_0.map Pair.cells)), (0, .box 28 (avs (Firmware.cells f)))] 3 (fun hg8 => ?_) (fun hg8 => ?_)
       ·
        have hg8' := of_decide_eq_true hg8
        refine AOps.he [.run 7] 50 [(3, .ptr 0 0), (5, .sl 1), (7, .ptr 2 0), (8, vi ((k2_ : Nat) : Int)), (12, .rv (.sl 6 (l.map Update.cells))), (13, vi ((l.length : Nat) : Int)), (14, vi ((k1_ : Nat) : Int)), (23, vi ((f.sums.length : Nat) : Int)), (24, vi ((k2_ : Nat) : Int)), (39, vb true)] [(2, .box 54 (avs (Update.cells e1_))), (1, .row false 68 2 (a2_0.map Pair.cells)), (0, .box 28 (avs (Firmware.cells f)))] 3 ?_
        refine AWp.cndT ?_
        refine AWp.hz [.run 5, .lit 68 2 (List.map Pair.cells [(⟨e1_.dev, ((k2_ : Nat) : Int)⟩ : Pair)]), .app Pair.cells a2_0 ([(⟨e1_.dev, ((k2_ : Nat) : Int)⟩ : Pair)]) 1 68 2 16 (apSz (by simp; omega)), .run 1] 50 [(3, .ptr 0 0), (5, .sl 1), (12, .rv (.sl 6 (l.map Update.cells))), (13, vi ((l.length : Nat) : Int)), (14, vi ((k1_ : Nat) : Int))] [(1, .row false 68 2 ((a2_0 ++ [(⟨e1_.dev, ((k2_ : Nat) : Int)⟩ : Pair)]).map Pair.cells)), (0, .box 28 (avs (Firmware.cells f)))] 3 ?_
        refine AWp.exit ?_
        have hq2_ : ((a2_0 ++ [(⟨e1_.dev, ((k2_ : Nat) : Int)⟩ : Pair)])) = (sendM_L2 l f e1_ (a1_0)) := iterB_brk hs2_ (by omega) (by unfold sendM_B2; (try dsimp only); (try simp only [he1_]); (try rw [h6]); (try rw [hg8]); first | done | kernel_rfl)
        exact ⟨((a2_0 ++ [(⟨e1_.dev, ((k2_ : Nat) : Int)⟩ : Pair)])), ⟨hq2_, by first | assumption | (simp only [List.length_set, List.length_append, List.length_cons, List.length_nil]; first | done | assumption | omega) | omega⟩, leG⟩
       ·
        have hg8' := of_decide_eq_false hg8
        obtain ⟨e2_, he2_⟩ := getEx (l := e1_.have_) (j := k2_) (by omega)
        refine AOps.he [.run 3, .idx boolC e1_.have_ 1 k2_ e2_ he2_, .run 3] 50 [(3, .ptr 0 0), (5, .sl 1), (7, .ptr 2 0), (8, vi ((k2_ : Nat) : Int)), (12, .rv (.sl 6 (l.map Update.cells))), (13, vi ((l.length : Nat) : Int)), (14, vi ((k1_ : Nat) : Int)), (23, vi ((f.sums.length : Nat) : Int)), (24, vi ((k2_ : Nat) : Int)), (39, vb (!e2_))] [(2, .box 54 (avs (Update.cells e1_))), (1, .row false 68 2 (a2_0.map Pair.cells)), (0, .box 28 (avs (Firmware.cells f)))] 3 ?_
        refine AWp.cnd (!e2_) (fun h9 => ?_) (fun h9 => ?_)
        ·
         refine AWp.hz [.run 5, .lit 68 2 (List.map Pair.cells [(⟨e1_.dev, ((k2_ : Nat) : Int)⟩ : Pair)]), .app Pair.cells a2_0 ([(⟨e1_.dev, ((k2_ : Nat) : Int)⟩ : Pair)]) 1 68 2 16 (apSz (by simp; omega)), .run 1] 50 [(3, .ptr 0 0), (5, .sl 1), (12, .rv (.sl 6 (l.map Update.cells))), (13, vi ((l.length : Nat) : Int)), (14, vi ((k1_ : Nat) : Int))] [(1, .row false 68 2 ((a2_0 ++ [(⟨e1_.dev, ((k2_ : Nat) : Int)⟩ : Pair)]).map Pair.cells)), (0, .box 28 (avs (Firmware.cells f)))] 3 ?_
         refine AWp.exit ?_
         have hq2_ : ((a2_0 ++ [(⟨e1_.dev, ((k2_ : Nat) : Int)⟩ : Pair)])) = (sendM_L2 l f e1_ (a1_0)) := iterB_brk hs2_ (by omega) (by unfold sendM_B2; (try dsimp only); (try simp only [he1_]); (try simp only [he2_]); (try rw [h6]); (try rw [hg8]); (try rw [h9]); first | done | kernel_rfl)
         exact ⟨((a2_0 ++ [(⟨e1_.dev, ((k2_ : Nat) : Int)⟩ : Pair)])), ⟨hq2_, by first | assumption | (simp only [List.length_set, List.length_append, List.length_cons, List.length_nil]; first | done | assumption | omega) | omega⟩, leG⟩
        ·
         refine AWp.skip ?_
         refine AWp.he [.cast (vi (IntKind.i64.wrap (((k2_ : Nat) : Int) + 1))) (vi ((k2_ + 1 : Nat) : Int)) (congrArg vi (wrap_nat (by omega))), .run 1] 50 [(3, .ptr 0 0), (5, .sl 1), (7, .ptr 2 0), (12, .rv (.sl 6 (l.map Update.cells))), (13, vi ((l.length : Nat) : Int)), (14, vi ((k1_ : Nat) : Int)), (23, vi ((f.sums.length : Nat) : Int)), (24, vi ((k2_ + 1 : Nat) : Int))] [(2, .box 54 (avs (Update.cells e1_))), (1, .row false 68 2 (a2_0.map Pair.cells)), (0, .box 28 (avs (Firmware.cells f)))] 3 ?_
         exact ⟨(k2_ + 1, (a2_0)), ⟨by show k2_ + 1 ≤ _; omega, iterB_next hs2_ (by omega) (by unfold sendM_B2; (try dsimp only); (try simp only [he1_]); (try simp only [he2_]); (try rw [h6]); (try rw [hg8]); (try rw [h9]); first | done | kernel_rfl), by first | assumption | (simp only [List.length_set, List.length_append, List.length_cons, List.length_nil]; first | done | assumption | omega) | omega, by assumption⟩, by show _ - (k2_ + 1) < _ - k2_; omega, leG⟩
      ·
       have h6' := of_decide_eq_false h6
       refine AWp.exit ?_
       have hq2_ : (a2_0) = (sendM_L2 l f e1_ (a1_0)) := iterB_end hs2_ (by omega)
       exact ⟨(a2_0), ⟨hq2_, by first | assumption | (simp only [List.length_set, List.length_append, List.length_cons, List.length_nil]; first | done | assumption | omega) | omega⟩, leG⟩
     ·
      rintro _ ⟨rfl, hl2_0⟩
      try dsimp only at hl2_0
      refine AWp.he [.cast (vi (IntKind.i64.wrap (((k1_ : Nat) : Int) + 1))) (vi ((k1_ + 1 : Nat) : Int)) (congrArg vi (wrap_nat (by omega))), .run 1] 50 [(3, .ptr 0 0), (5, .sl 1), (12, .rv (.sl 6 (l.map Update.cells))), (13, vi ((l.length : Nat) : Int)), (14, vi ((k1_ + 1 : Nat) : Int))] [(1, .row false 68 2 ((sendM_L2 l f e1_ (a1_0)).map Pair.cells)), (0, .box 28 (avs (Firmware.cells f)))] 3 ?_
      exact ⟨(k1_ + 1, ((sendM_L2 l f e1_ (a1_0)))), ⟨by show k1_ + 1 ≤ _; omega, iterN_next hs1_ (by omega) (by unfold sendM_B1; (try dsimp only); (try simp only [he1_]); (try rw [h3]); (try rw [h4]); first | done | kernel_rfl), by first | exact Nat.le_succ_of_le (by assumption) | exact Nat.le_trans (sendM_L2_len _ _ _ _) (Nat.succ_le_succ (by assumption))⟩, by show _ - (k1_ + 1) < _ - k1_; omega, leG⟩
   ·
    have h3' := of_decide_eq_false h3
    refine AWp.exit ?_
    have hq1_ : (a1_0) = (sendM_L1 l f ([])) := iterN_end hs1_ (by omega)
    exact ⟨(a1_0), hq1_, leG⟩
  ·
   rintro _ rfl
   refine AWp.hz [.run 2] 50 [(4, .sl 1)] [(1, .row false 68 2 ((sendM_L1 l f ([])).map Pair.cells))] 2 ?_
   refine AWp.le (Le.frz _ 1) ?_
   refine AWp.cv 50 [(4, .rv (.sl 2 ((sendM_L1 l f ([])).map Pair.cells)))] [] 2 ?_
   refine AWp.ret ?_
   exact leafR (r := .rv (.sl 2 ((sendM_L1 l f ([])).map Pair.cells))) (by show (.rv (.sl 2 ((sendM_L1 l f ([])).map Pair.cells)) : AV) = .rv (.sl 2 ((sendM l f).map Pair.cells)); unfold sendM; (try rw [h1]); first | done | kernel_rfl)
end Go.Proofs.Ytjgpnceaicijcaa
