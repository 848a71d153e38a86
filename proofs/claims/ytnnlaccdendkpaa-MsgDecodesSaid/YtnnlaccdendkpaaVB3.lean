/- The reference's readers. -/
import Derived.Test.YtnnlaccdendkpaaVB2
namespace Go.Proofs.Ytnnlaccdendkpaa
open Go Go.Av Go.Hh Go.Proofs
set_option maxRecDepth 100000
set_option maxHeartbeats 4000000
def rrErrM (r : RRd) : (Int) :=
 (bif !r.made then 15 else r.bad)
theorem rrErrM_ok (r : RRd) :
 ACalls Try.prog G_ 58 [.ptr 0 0] (number 0 [.box 102 (avs (RRd.cells r))]) 1 (fun r_ τ_ => r_ = vi (rrErrM r) ∧ τ_ = number 0 [.box 102 (avs (RRd.cells r))]) := by
 refine ACalls.bodyH Try.func58 rfl 2016 [(0, .ptr 0 0)] ?_
 refine AWp.hz [.run 1] 2016 [(0, .ptr 0 0)] [(0, .box 102 (avs (RRd.cells r)))] 1 ?_
 refine AWp.seq ?_
 refine AWp.rg ?_
 refine AOps.hz [.run 1] 2016 [(0, .ptr 0 0), (3, .ptr 0 0)] [(0, .box 102 (avs (RRd.cells r)))] 1 ?_
 refine AOps.ptrNil (.tmp 3) true ?_
 refine AOps.he [.run 7] 2016 [(0, .ptr 0 0), (11, vb (!r.made))] [(0, .box 102 (avs (RRd.cells r)))] 1 ?_
 refine AWp.cnd (!r.made) (fun h1 => ?_) (fun h1 => ?_)
 ·
  refine AWp.hz [.run 1] 2016 [(2, vi 15)] [(0, .box 102 (avs (RRd.cells r)))] 1 ?_
  refine AWp.ret ?_
  exact leafH (.inr rfl) (r := vi 15) (τ := [(0, .box 102 (avs (RRd.cells r)))]) (by show (vi 15 : AV) = vi (rrErrM r); unfold rrErrM; (try rw [h1]); try kernel_rfl) (rfl)
 ·
  refine AWp.skip ?_
  refine AWp.hz [.run 5] 2016 [(2, vi r.bad)] [(0, .box 102 (avs (RRd.cells r)))] 1 ?_
  refine AWp.ret ?_
  exact leafH (.inr rfl) (r := vi r.bad) (τ := [(0, .box 102 (avs (RRd.cells r)))]) (by show (vi r.bad : AV) = vi (rrErrM r); unfold rrErrM; (try rw [h1]); try kernel_rfl) (rfl)
def rrFailM (r : RRd) (e : Int) : (RRd) :=
 (bif ((rrErrM r) == 0) then (⟨r.s, r.at_, e, r.made⟩ : RRd) else r)
theorem rrFailM_ok (r : RRd) (e : Int) :
 ACalls Try.prog G_ 78 [.ptr 0 0, vi e] (number 0 [.box 102 (avs (RRd.cells r))]) 1 (fun r_ τ_ => r_ = .tuple [] ∧ τ_ = number 0 [.box 102 (avs (RRd.cells (rrFailM r e)))]) := by
 refine ACalls.bodyH Try.func78 rfl 2011 [(0, .ptr 0 0), (1, vi e)] ?_
 refine AWp.rg ?_
 refine AOps.hz [.run 1] 2011 [(0, .ptr 0 0), (1, vi e), (4, .ptr 0 0)] [(0, .box 102 (avs (RRd.cells r)))] 1 ?_
 refine AOps.callX 58 [] [] [0] [.box 102 (avs (RRd.cells r))] [.box 102 (avs (RRd.cells r))] (.func 58) [(.tmp 4)] [.ptr 0 0] (vi (rrErrM r)) (rrErrM_ok r) ?_
 refine AOps.he [.run 1] 2011 [(0, .ptr 0 0), (1, vi e), (6, vb ((rrErrM r) == 0))] [(0, .box 102 (avs (RRd.cells r)))] 1 ?_
 refine AWp.cnd (((rrErrM r) == 0)) (fun h1 => ?_) (fun h1 => ?_)
 ·
  refine AWp.he [.run 5] 2011 [] [(0, .box 102 [vs r.s, vi r.at_, vi e, vb r.made])] 1 ?_
  exact leafH (.inl rfl) (r := .tuple []) (τ := [(0, .box 102 [vs r.s, vi r.at_, vi e, vb r.made])]) (rfl) (by show ([(0, .box 102 [vs r.s, vi r.at_, vi e, vb r.made])] : Heap) = number 0 [.box 102 (avs (RRd.cells (rrFailM r e)))]; unfold rrFailM; (try rw [h1]); try kernel_rfl)
 ·
  refine AWp.skip ?_
  exact leafH (.inl rfl) (r := .tuple []) (τ := [(0, .box 102 (avs (RRd.cells r)))]) (rfl) (by show ([(0, .box 102 (avs (RRd.cells r)))] : Heap) = number 0 [.box 102 (avs (RRd.cells (rrFailM r e)))]; unfold rrFailM; (try rw [h1]); try kernel_rfl)
def RdOk (r : RRd) : Prop := 0 ≤ r.at_ ∧ r.at_ ≤ (r.s.size : Int) ∧ r.s.size ≤ 1000000
def rrEndM (r : RRd) : (Int) :=
 (bif ((rrErrM r) != 0) then (rrErrM r) else (bif decide (r.at_ < (r.s.size : Int)) then 23 else 0))
theorem rrEndM_ok (r : RRd) :
 ACalls Try.prog G_ 62 [.ptr 0 0] (number 0 [.box 102 (avs (RRd.cells r))]) 1 (fun r_ τ_ => r_ = vi (rrEndM r) ∧ τ_ = number 0 [.box 102 (avs (RRd.cells r))]) := by
 refine ACalls.bodyH Try.func62 rfl 2018 [(0, .ptr 0 0)] ?_
 refine AWp.hz [.run 1] 2018 [(0, .ptr 0 0)] [(0, .box 102 (avs (RRd.cells r)))] 1 ?_
 refine AWp.seq ?_
 refine AWp.rg ?_
 refine AOps.hz [.run 1] 2018 [(0, .ptr 0 0), (3, .ptr 0 0)] [(0, .box 102 (avs (RRd.cells r)))] 1 ?_
 refine AOps.callX 58 [] [] [0] [.box 102 (avs (RRd.cells r))] [.box 102 (avs (RRd.cells r))] (.func 58) [(.tmp 3)] [.ptr 0 0] (vi (rrErrM r)) (rrErrM_ok r) ?_
 refine AOps.he [.run 1] 2018 [(0, .ptr 0 0), (5, vb ((rrErrM r) != 0))] [(0, .box 102 (avs (RRd.cells r)))] 1 ?_
 refine AWp.cnd (((rrErrM r) != 0)) (fun h1 => ?_) (fun h1 => ?_)
 ·
  refine AWp.rg ?_
  refine AOps.hz [.run 1] 2018 [(6, .ptr 0 0)] [(0, .box 102 (avs (RRd.cells r)))] 1 ?_
  refine AOps.callX 58 [] [] [0] [.box 102 (avs (RRd.cells r))] [.box 102 (avs (RRd.cells r))] (.func 58) [(.tmp 6)] [.ptr 0 0] (vi (rrErrM r)) (rrErrM_ok r) ?_
  refine AOps.he [.run 1] 2018 [(2, vi (rrErrM r))] [(0, .box 102 (avs (RRd.cells r)))] 1 ?_
  refine AWp.ret ?_
  exact leafH (.inr rfl) (r := vi (rrErrM r)) (τ := [(0, .box 102 (avs (RRd.cells r)))]) (by show (vi (rrErrM r) : AV) = vi (rrEndM r); unfold rrEndM; (try rw [h1]); try kernel_rfl) (rfl)
 ·
  refine AWp.skip ?_
  refine AWp.seq ?_
  refine AWp.dz [.ptr 0 0, .ptr 0 0, .ptr 0 1, vi r.at_, .ptr 0 0, .ptr 0 0, .ptr 0 0, vs r.s, vi (r.s.size : Int), vb (decide (r.at_ < (r.s.size : Int)))] 2018 [(17, vb (decide (r.at_ < (r.s.size : Int))))] [(0, .box 102 (avs (RRd.cells r)))] 1 ?_ ?_
  ·
   refine DSteps.cons (DStep.va) ?_
   refine DSteps.cons (DStep.va) ?_
   refine DSteps.cons (DStep.va) ?_
   refine DSteps.cons (DStep.va) ?_
   refine DSteps.cons (DStep.va) ?_
   refine DSteps.cons (DStep.va) ?_
   refine DSteps.cons (DStep.va) ?_
   refine DSteps.cons (DStep.va) ?_
   refine DSteps.cons (DStep.va) ?_
   refine DSteps.cons (DStep.va) ?_
   exact DSteps.nl
  refine AWp.cnd (decide (r.at_ < (r.s.size : Int))) (fun h2 => ?_) (fun h2 => ?_)
  ·
   have h2' := of_decide_eq_true h2
   refine AWp.hz [.run 1] 2018 [(2, vi 23)] [(0, .box 102 (avs (RRd.cells r)))] 1 ?_
   refine AWp.ret ?_
   exact leafH (.inr rfl) (r := vi 23) (τ := [(0, .box 102 (avs (RRd.cells r)))]) (by show (vi 23 : AV) = vi (rrEndM r); unfold rrEndM; (try rw [h1]); (try rw [h2]); try kernel_rfl) (rfl)
  ·
   have h2' := of_decide_eq_false h2
   refine AWp.skip ?_
   refine AWp.hz [.run 1] 2018 [(2, vi 0)] [(0, .box 102 (avs (RRd.cells r)))] 1 ?_
   refine AWp.ret ?_
   exact leafH (.inr rfl) (r := vi 0) (τ := [(0, .box 102 (avs (RRd.cells r)))]) (by show (vi 0 : AV) = vi (rrEndM r); unfold rrEndM; (try rw [h1]); (try rw [h2]); try kernel_rfl) (rfl)
def rrIntM_B1 (r : RRd) (k1_ : Nat) (x_ : Int) : Step (Int × RRd) (Int) :=
 match x_ with
 | (a1_0) => (bif decide (IntKind.i64.wrap (r.at_ + (k1_ : Int)) ≥ (r.s.size : Int)) then .ret (0, (⟨r.s, r.at_, 5, r.made⟩ : RRd)) else (match (r.s.data.toList)[(IntKind.i64.wrap (r.at_ + (k1_ : Int))).toNat]? with | some e1_ => (bif ((decide ((k1_ : Int) > 0) && ((e1_.toNat : Int) == 0)) || (((k1_ : Int) == 9) && decide ((e1_.toNat : Int) > 1))) then .ret (0, (⟨r.s, r.at_, 4, r.made⟩ : RRd)) else (bif decide ((e1_.toNat : Int) < 128) then .ret ((bif ((orI .u64 a1_0 (IntKind.u64.wrap ((IntKind.u64.wrap ((e1_.toNat : Int).tmod 128)) * 2 ^ (min (IntKind.i64.wrap (7 * (k1_ : Int))).toNat 64)))).tmod 2 == 1) then IntKind.i64.wrap (-1 - IntKind.i64.wrap ((orI .u64 a1_0 (IntKind.u64.wrap ((IntKind.u64.wrap ((e1_.toNat : Int).tmod 128)) * 2 ^ (min (IntKind.i64.wrap (7 * (k1_ : Int))).toNat 64)))).fdiv 2)) else IntKind.i64.wrap ((orI .u64 a1_0 (IntKind.u64.wrap ((IntKind.u64.wrap ((e1_.toNat : Int).tmod 128)) * 2 ^ (min (IntKind.i64.wrap (7 * (k1_ : Int))).toNat 64)))).fdiv 2)), (⟨r.s, IntKind.i64.wrap (IntKind.i64.wrap (r.at_ + (k1_ : Int)) + 1), r.bad, r.made⟩ : RRd)) else .nxt (orI .u64 a1_0 (IntKind.u64.wrap ((IntKind.u64.wrap ((e1_.toNat : Int).tmod 128)) * 2 ^ (min (IntKind.i64.wrap (7 * (k1_ : Int))).toNat 64)))))) | none => .nxt x_))
def rrIntM_L1 (r : RRd) (x_ : Int) : (Int × RRd) ⊕ (Int) := loopS (rrIntM_B1 r) 0 10 x_
def rrIntM (r : RRd) : (Int × RRd) :=
 (bif ((rrErrM r) != 0) then (0, r) else (match (rrIntM_L1 r (0)) with | .inl r_ => r_ | .inr (a1_0) => (0, r)))
abbrev rrIntM_c1 (r : RRd) : Nat × AObj := (0, .box 102 (avs (RRd.cells r)))
abbrev rrIntM_c2 (r : RRd) (k1_ : Nat) : Nat × AObj := (0, .box 102 [vs r.s, vi (IntKind.i64.wrap (IntKind.i64.wrap (r.at_ + (k1_ : Int)) + 1)), vi r.bad, vb r.made])
abbrev rrIntM_c3 (a1_0 : Int) (e1_ : UInt8) (k1_ : Nat) : Nat × AV := (3, .rv (.v (.int .u64 (orI .u64 a1_0 (IntKind.u64.wrap ((IntKind.u64.wrap ((e1_.toNat : Int).tmod 128)) * 2 ^ (min (IntKind.i64.wrap (7 * (k1_ : Int))).toNat 64)))))))
abbrev rrIntM_c4 (e1_ : UInt8) : Nat × AV := (5, .rv (.v (.int .u8 (e1_.toNat : Int))))
abbrev rrIntM_c5 (a1_0 : Int) : Nat × AV := (3, .rv (.v (.int .u64 a1_0)))
theorem rrIntM_ok (r : RRd) (ho : RdOk r) :
 ACalls Try.prog G_ 57 [.ptr 0 0] (number 0 [.box 102 (avs (RRd.cells r))]) 1 (fun r_ τ_ => r_ = vi ((rrIntM r).1) ∧ τ_ = number 0 [.box 102 (avs (RRd.cells ((rrIntM r).2)))]) := by
 have ho0 := ho; obtain ⟨ha, hs, hz⟩ := ho0
 refine ACalls.bodyH Try.func57 rfl 2086 [(0, .ptr 0 0)] ?_
 refine AWp.hz [.run 1] 2086 [(0, .ptr 0 0)] [(rrIntM_c1 r)] 1 ?_
 refine AWp.seq ?_
 refine AWp.rg ?_
 refine AOps.hz [.run 1] 2086 [(0, .ptr 0 0), (7, .ptr 0 0)] [(rrIntM_c1 r)] 1 ?_
 refine AOps.callX 58 [] [] [0] [.box 102 (avs (RRd.cells r))] [.box 102 (avs (RRd.cells r))] (.func 58) [(.tmp 7)] [.ptr 0 0] (vi (rrErrM r)) (rrErrM_ok r) ?_
 refine AOps.he [.run 1] 2086 [(0, .ptr 0 0), (9, vb ((rrErrM r) != 0))] [(rrIntM_c1 r)] 1 ?_
 refine AWp.cnd (((rrErrM r) != 0)) (fun h1 => ?_) (fun h1 => ?_)
 ·
  refine AWp.hz [.run 1] 2086 [(2, vi 0)] [(rrIntM_c1 r)] 1 ?_
  refine AWp.ret ?_
  exact leafH (.inr rfl) (r := vi 0) (τ := [(rrIntM_c1 r)]) (by show (vi 0 : AV) = vi ((rrIntM r).1); unfold rrIntM; (try rw [h1]); try kernel_rfl) (by show ([(rrIntM_c1 r)] : Heap) = number 0 [.box 102 (avs (RRd.cells ((rrIntM r).2)))]; unfold rrIntM; (try rw [h1]); try kernel_rfl)
 ·
  refine AWp.skip ?_
  refine AWp.hz [.run 1] 2086 [(0, .ptr 0 0), (3, .rv (.v (.int .u64 0)))] [(rrIntM_c1 r)] 1 ?_
  refine AWp.seq ?_
  refine AWp.hz [.run 1] 2086 [(0, .ptr 0 0), (3, .rv (.v (.int .u64 0))), (4, vi 0)] [(rrIntM_c1 r)] 1 ?_
  refine AWp.joinE1 (A := Int) (fun x_ => Z 2086 [] [(0, .box 102 (avs (RRd.cells r)))] 1) (fun x_ => (rrIntM_L1 r (0)) = .inr x_) ?_ ?_
  ·
   refine AWp.block ?_
   refine AWp.loop (ι := Nat × (Int)) (fun x_ => Z 2086 [(0, .ptr 0 0), (3, .rv (.v (.int .u64 x_.2))), (4, vi (x_.1 : Int))] [(rrIntM_c1 r)] 1) (fun x_ => x_.1 ≤ 10 ∧ (rrIntM_L1 r (0)) = loopS (rrIntM_B1 r) x_.1 (10 - x_.1) x_.2) (fun x_ => 10 - x_.1) (0, (0)) leZ ⟨Nat.zero_le _, rfl⟩ ?_
   rintro ⟨k1_, a1_0⟩ ⟨hk1_, hs1_⟩
   try dsimp only at hk1_
   try dsimp only at hs1_
   refine AWp.cv 2086 [(0, .ptr 0 0), (rrIntM_c5 a1_0), (4, vi (k1_ : Int))] [(rrIntM_c1 r)] 1 ?_
   refine AWp.seq ?_
   refine AWp.hz [.run 2] 2086 [(0, .ptr 0 0), (rrIntM_c5 a1_0), (4, vi (k1_ : Int)), (11, vb (decide ((k1_ : Int) < 10)))] [(rrIntM_c1 r)] 1 ?_
   refine AWp.cnd (decide ((k1_ : Int) < 10)) (fun h2 => ?_) (fun h2 => ?_)
   ·
    have h2' := of_decide_eq_true h2
    refine AWp.skip ?_
    refine AWp.seq ?_
    refine AWp.block ?_
    refine AWp.seq ?_
    refine AWp.dz [.ptr 0 0, .ptr 0 0, .ptr 0 1, vi r.at_, vi (k1_ : Int), vi (IntKind.i64.wrap (r.at_ + (k1_ : Int))), .ptr 0 0, .ptr 0 0, .ptr 0 0, vs r.s, vi (r.s.size : Int), vb (decide (IntKind.i64.wrap (r.at_ + (k1_ : Int)) ≥ (r.s.size : Int)))] 2086 [(0, .ptr 0 0), (rrIntM_c5 a1_0), (4, vi (k1_ : Int)), (25, vb (decide (IntKind.i64.wrap (r.at_ + (k1_ : Int)) ≥ (r.s.size : Int))))] [(rrIntM_c1 r)] 1 ?_ ?_
    ·
     refine DSteps.cons (DStep.va) ?_
     refine DSteps.cons (DStep.va) ?_
     refine DSteps.cons (DStep.va) ?_
     refine DSteps.cons (DStep.va) ?_
     refine DSteps.cons (DStep.va) ?_
     refine DSteps.cons (DStep.va) ?_
     refine DSteps.cons (DStep.va) ?_
     refine DSteps.cons (DStep.va) ?_
     refine DSteps.cons (DStep.va) ?_
     refine DSteps.cons (DStep.va) ?_
     refine DSteps.cons (DStep.va) ?_
     refine DSteps.cons (DStep.va) ?_
     exact DSteps.nl
    refine AWp.cnd (decide (IntKind.i64.wrap (r.at_ + (k1_ : Int)) ≥ (r.s.size : Int))) (fun h3 => ?_) (fun h3 => ?_)
    ·
     have h3' := of_decide_eq_true h3
     refine AWp.hz [.run 4] 2086 [] [(0, .box 102 [vs r.s, vi r.at_, vi 5, vb r.made])] 1 ?_
     refine AWp.hz [.run 1] 2086 [(2, vi 0)] [(0, .box 102 [vs r.s, vi r.at_, vi 5, vb r.made])] 1 ?_
     refine AWp.ret ?_
     have hL1_ : (rrIntM_L1 r (0)) = .inl (0, (⟨r.s, r.at_, 5, r.made⟩ : RRd)) := loopS_ret hs1_ (by omega) (by unfold rrIntM_B1; (try dsimp only); (try rw [h2]); (try rw [h3]); try kernel_rfl)
     exact leafH (.inr rfl) (r := vi 0) (τ := [(0, .box 102 [vs r.s, vi r.at_, vi 5, vb r.made])]) (by show (vi 0 : AV) = vi ((rrIntM r).1); unfold rrIntM; (try rw [h1]); (try rw [hL1_]); (try dsimp only); try kernel_rfl) (by show ([(0, .box 102 [vs r.s, vi r.at_, vi 5, vb r.made])] : Heap) = number 0 [.box 102 (avs (RRd.cells ((rrIntM r).2)))]; unfold rrIntM; (try rw [h1]); (try rw [hL1_]); (try dsimp only); try kernel_rfl)
    ·
     have h3' := of_decide_eq_false h3
     refine AWp.skip ?_
     have := wrap64_of (r.at_ + (k1_ : Int)) (by omega) (by omega)
     have ht4 : (IntKind.i64.wrap (r.at_ + (k1_ : Int))) = (((IntKind.i64.wrap (r.at_ + (k1_ : Int))).toNat : Nat) : Int) := (Int.toNat_of_nonneg (by omega)).symm
     obtain ⟨e1_, he1_⟩ : ∃ e_, (r.s.data.toList)[(IntKind.i64.wrap (r.at_ + (k1_ : Int))).toNat]? = some e_ := byteAt (by omega)
     refine AWp.dz [.ptr 0 0, .ptr 0 0, .ptr 0 0, vs r.s, .ptr 0 0, .ptr 0 0, .ptr 0 1, vi r.at_, vi (k1_ : Int), vi (((IntKind.i64.wrap (r.at_ + (k1_ : Int))).toNat : Nat) : Int), .rv (.v (.int .u8 (e1_.toNat : Int))), .rv (.v (.int .u8 (e1_.toNat : Int)))] 2086 [(0, .ptr 0 0), (rrIntM_c5 a1_0), (4, vi (k1_ : Int)), (rrIntM_c4 e1_)] [(rrIntM_c1 r)] 1 ?_ ?_
     ·
      refine DSteps.cons (DStep.va) ?_
      refine DSteps.cons (DStep.va) ?_
      refine DSteps.cons (DStep.va) ?_
      refine DSteps.cons (DStep.va) ?_
      refine DSteps.cons (DStep.va) ?_
      refine DSteps.cons (DStep.va) ?_
      refine DSteps.cons (DStep.va) ?_
      refine DSteps.cons (DStep.va) ?_
      refine DSteps.cons (DStep.va) ?_
      refine DSteps.cons ((DStep.val (v := vi (IntKind.i64.wrap (r.at_ + (k1_ : Int)))) (by kernel_rfl) (by kernel_rfl)).cast (congrArg vi ht4)) ?_
      refine DSteps.cons (DStep.vs (by kernel_rfl) (R_indexStrM r.s ((IntKind.i64.wrap (r.at_ + (k1_ : Int))).toNat) rfl (by kernel_rfl) (by kernel_rfl) (by kernel_rfl) he1_)) ?_
      refine DSteps.cons (DStep.va) ?_
      exact DSteps.nl
     refine AWp.seq ?_
     refine AWp.join (Z 2086 [(0, .ptr 0 0), (3, .rv (.v (.int .u64 a1_0))), (4, vi (k1_ : Int)), (5, .rv (.v (.int .u8 (e1_.toNat : Int)))), (53, vb ((decide ((k1_ : Int) > 0) && ((e1_.toNat : Int) == 0)) || (((k1_ : Int) == 9) && decide ((e1_.toNat : Int) > 1))))] [(0, .box 102 (avs (RRd.cells r)))] 1) ?_ ?_
     ·
      refine AWp.region ?_
      refine AOps.hg [.run 3] (decide ((k1_ : Int) > 0)) 2086 (fun b_ => [(0, .ptr 0 0), (rrIntM_c5 a1_0), (4, vi (k1_ : Int)), (rrIntM_c4 e1_), (42, vb b_)]) [(rrIntM_c1 r)] 1 (fun hg5 => ?_) (fun hg5 => ?_)
      ·
       have hg5' := of_decide_eq_true hg5
       refine AOps.hg [.run 4] (((e1_.toNat : Int) == 0)) 2086 (fun b_ => [(0, .ptr 0 0), (rrIntM_c5 a1_0), (4, vi (k1_ : Int)), (rrIntM_c4 e1_), (46, vb b_)]) [(rrIntM_c1 r)] 1 (fun hg6 => ?_) (fun hg6 => ?_)
       ·
        have hg6' := beq_t hg6
        refine AOps.he [.run 7] 2086 [(0, .ptr 0 0), (rrIntM_c5 a1_0), (4, vi (k1_ : Int)), (rrIntM_c4 e1_), (53, vb true)] [(rrIntM_c1 r)] 1 ?_
        exact leZ (by rw [hg5, hg6]; try kernel_rfl)
       ·
        have hg6' := beq_f hg6
        refine AOps.hg [.run 3] (((k1_ : Int) == 9)) 2086 (fun b_ => [(0, .ptr 0 0), (rrIntM_c5 a1_0), (4, vi (k1_ : Int)), (rrIntM_c4 e1_), (46, vb false), (49, vb b_)]) [(rrIntM_c1 r)] 1 (fun hg7 => ?_) (fun hg7 => ?_)
        ·
         have hg7' := beq_t hg7
         refine AOps.he [.run 4] 2086 [(0, .ptr 0 0), (rrIntM_c5 a1_0), (4, vi (k1_ : Int)), (rrIntM_c4 e1_), (53, vb (decide ((e1_.toNat : Int) > 1)))] [(rrIntM_c1 r)] 1 ?_
         exact leZ (by rw [hg5, hg6, hg7]; try kernel_rfl)
        ·
         have hg7' := beq_f hg7
         refine AOps.he [.run 4] 2086 [(0, .ptr 0 0), (rrIntM_c5 a1_0), (4, vi (k1_ : Int)), (rrIntM_c4 e1_), (53, vb false)] [(rrIntM_c1 r)] 1 ?_
         exact leZ (by rw [hg5, hg6, hg7]; try kernel_rfl)
      ·
       have hg5' := of_decide_eq_false hg5
       refine AOps.hg [.run 7] (((k1_ : Int) == 9)) 2086 (fun b_ => [(0, .ptr 0 0), (rrIntM_c5 a1_0), (4, vi (k1_ : Int)), (rrIntM_c4 e1_), (46, vb false), (49, vb b_)]) [(rrIntM_c1 r)] 1 (fun hg8 => ?_) (fun hg8 => ?_)
       ·
        have hg8' := beq_t hg8
        refine AOps.he [.run 4] 2086 [(0, .ptr 0 0), (rrIntM_c5 a1_0), (4, vi (k1_ : Int)), (rrIntM_c4 e1_), (53, vb (decide ((e1_.toNat : Int) > 1)))] [(rrIntM_c1 r)] 1 ?_
        exact leZ (by rw [hg5, hg8]; try kernel_rfl)
       ·
        have hg8' := beq_f hg8
        refine AOps.he [.run 4] 2086 [(0, .ptr 0 0), (rrIntM_c5 a1_0), (4, vi (k1_ : Int)), (rrIntM_c4 e1_), (53, vb false)] [(rrIntM_c1 r)] 1 ?_
        exact leZ (by rw [hg5, hg8]; try kernel_rfl)
     ·
      refine AWp.cnd (((decide ((k1_ : Int) > 0) && ((e1_.toNat : Int) == 0)) || (((k1_ : Int) == 9) && decide ((e1_.toNat : Int) > 1)))) (fun h9 => ?_) (fun h9 => ?_)
      ·
       refine AWp.hz [.run 4] 2086 [] [(0, .box 102 [vs r.s, vi r.at_, vi 4, vb r.made])] 1 ?_
       refine AWp.hz [.run 1] 2086 [(2, vi 0)] [(0, .box 102 [vs r.s, vi r.at_, vi 4, vb r.made])] 1 ?_
       refine AWp.ret ?_
       have hL1_ : (rrIntM_L1 r (0)) = .inl (0, (⟨r.s, r.at_, 4, r.made⟩ : RRd)) := loopS_ret hs1_ (by omega) (by unfold rrIntM_B1; (try dsimp only); (try simp only [he1_]); (try rw [h2]); (try rw [h3]); (try rw [h9]); try kernel_rfl)
       exact leafH (.inr rfl) (r := vi 0) (τ := [(0, .box 102 [vs r.s, vi r.at_, vi 4, vb r.made])]) (by show (vi 0 : AV) = vi ((rrIntM r).1); unfold rrIntM; (try rw [h1]); (try rw [hL1_]); (try dsimp only); try kernel_rfl) (by show ([(0, .box 102 [vs r.s, vi r.at_, vi 4, vb r.made])] : Heap) = number 0 [.box 102 (avs (RRd.cells ((rrIntM r).2)))]; unfold rrIntM; (try rw [h1]); (try rw [hL1_]); (try dsimp only); try kernel_rfl)
      ·
       have h9l := or_fl h9
       have h9r := or_fr h9
       refine AWp.skip ?_
       refine AWp.rg ?_
       refine AOps.hz [.run 6] 2086 [(0, .ptr 0 0), (4, vi (k1_ : Int)), (rrIntM_c4 e1_), (57, .rv (.v (.int .u64 a1_0))), (60, .rv (.v (.int .u64 (IntKind.u64.wrap ((e1_.toNat : Int).tmod 128))))), (62, vi (IntKind.i64.wrap (7 * (k1_ : Int))))] [(rrIntM_c1 r)] 1 ?_
       have := wrap64_of (7 * (k1_ : Int)) (by omega) (by omega)
       have hd10 : 0 ≤ (IntKind.i64.wrap (7 * (k1_ : Int))) := by omega
       refine AOps.shlV .u64 .i64 (IntKind.u64.wrap ((e1_.toNat : Int).tmod 128)) (IntKind.i64.wrap (7 * (k1_ : Int))) (.tmp 60) (.tmp 62) hd10 ?_
       refine AOps.orI .u64 a1_0 (IntKind.u64.wrap ((IntKind.u64.wrap ((e1_.toNat : Int).tmod 128)) * 2 ^ (min (IntKind.i64.wrap (7 * (k1_ : Int))).toNat 64))) (.tmp 57) (.tmp 63) ?_
       refine AOps.he [.run 1] 2086 [(0, .ptr 0 0), (rrIntM_c3 a1_0 e1_ k1_), (4, vi (k1_ : Int)), (rrIntM_c4 e1_)] [(rrIntM_c1 r)] 1 ?_
       refine AWp.hz [.run 2] 2086 [(0, .ptr 0 0), (rrIntM_c3 a1_0 e1_ k1_), (4, vi (k1_ : Int)), (66, vb (decide ((e1_.toNat : Int) < 128)))] [(rrIntM_c1 r)] 1 ?_
       refine AWp.cnd (decide ((e1_.toNat : Int) < 128)) (fun h11 => ?_) (fun h11 => ?_)
       ·
        have h11' := of_decide_eq_true h11
        refine AWp.hz [.run 11] 2086 [(rrIntM_c3 a1_0 e1_ k1_)] [(rrIntM_c2 r k1_)] 1 ?_
        refine AWp.hz [.run 4] 2086 [(rrIntM_c3 a1_0 e1_ k1_), (6, vi (IntKind.i64.wrap ((orI .u64 a1_0 (IntKind.u64.wrap ((IntKind.u64.wrap ((e1_.toNat : Int).tmod 128)) * 2 ^ (min (IntKind.i64.wrap (7 * (k1_ : Int))).toNat 64)))).fdiv 2)))] [(rrIntM_c2 r k1_)] 1 ?_
        refine AWp.join (Z 2086 [(6, vi (bif ((orI .u64 a1_0 (IntKind.u64.wrap ((IntKind.u64.wrap ((e1_.toNat : Int).tmod 128)) * 2 ^ (min (IntKind.i64.wrap (7 * (k1_ : Int))).toNat 64)))).tmod 2 == 1) then IntKind.i64.wrap (-1 - IntKind.i64.wrap ((orI .u64 a1_0 (IntKind.u64.wrap ((IntKind.u64.wrap ((e1_.toNat : Int).tmod 128)) * 2 ^ (min (IntKind.i64.wrap (7 * (k1_ : Int))).toNat 64)))).fdiv 2)) else IntKind.i64.wrap ((orI .u64 a1_0 (IntKind.u64.wrap ((IntKind.u64.wrap ((e1_.toNat : Int).tmod 128)) * 2 ^ (min (IntKind.i64.wrap (7 * (k1_ : Int))).toNat 64)))).fdiv 2)))] [(0, .box 102 [vs r.s, vi (IntKind.i64.wrap (IntKind.i64.wrap (r.at_ + (k1_ : Int)) + 1)), vi r.bad, vb r.made])] 1) ?_ ?_
        ·
         refine AWp.hz [.run 3] 2086 [(6, vi (IntKind.i64.wrap ((orI .u64 a1_0 (IntKind.u64.wrap ((IntKind.u64.wrap ((e1_.toNat : Int).tmod 128)) * 2 ^ (min (IntKind.i64.wrap (7 * (k1_ : Int))).toNat 64)))).fdiv 2))), (82, vb ((orI .u64 a1_0 (IntKind.u64.wrap ((IntKind.u64.wrap ((e1_.toNat : Int).tmod 128)) * 2 ^ (min (IntKind.i64.wrap (7 * (k1_ : Int))).toNat 64)))).tmod 2 == 1))] [(rrIntM_c2 r k1_)] 1 ?_
         refine AWp.cnd (((orI .u64 a1_0 (IntKind.u64.wrap ((IntKind.u64.wrap ((e1_.toNat : Int).tmod 128)) * 2 ^ (min (IntKind.i64.wrap (7 * (k1_ : Int))).toNat 64)))).tmod 2 == 1)) (fun h12 => ?_) (fun h12 => ?_)
         ·
          have h12' := beq_t h12
          refine AWp.he [.run 3] 2086 [(6, vi (IntKind.i64.wrap (-1 - IntKind.i64.wrap ((orI .u64 a1_0 (IntKind.u64.wrap ((IntKind.u64.wrap ((e1_.toNat : Int).tmod 128)) * 2 ^ (min (IntKind.i64.wrap (7 * (k1_ : Int))).toNat 64)))).fdiv 2))))] [(rrIntM_c2 r k1_)] 1 ?_
          exact leZ (by rw [h12]; try kernel_rfl)
         ·
          have h12' := beq_f h12
          refine AWp.skip ?_
          exact leZ (by rw [h12]; try kernel_rfl)
        ·
         refine AWp.hz [.run 2] 2086 [(2, vi (bif ((orI .u64 a1_0 (IntKind.u64.wrap ((IntKind.u64.wrap ((e1_.toNat : Int).tmod 128)) * 2 ^ (min (IntKind.i64.wrap (7 * (k1_ : Int))).toNat 64)))).tmod 2 == 1) then IntKind.i64.wrap (-1 - IntKind.i64.wrap ((orI .u64 a1_0 (IntKind.u64.wrap ((IntKind.u64.wrap ((e1_.toNat : Int).tmod 128)) * 2 ^ (min (IntKind.i64.wrap (7 * (k1_ : Int))).toNat 64)))).fdiv 2)) else IntKind.i64.wrap ((orI .u64 a1_0 (IntKind.u64.wrap ((IntKind.u64.wrap ((e1_.toNat : Int).tmod 128)) * 2 ^ (min (IntKind.i64.wrap (7 * (k1_ : Int))).toNat 64)))).fdiv 2)))] [(rrIntM_c2 r k1_)] 1 ?_
         refine AWp.ret ?_
         have hL1_ : (rrIntM_L1 r (0)) = .inl ((bif ((orI .u64 a1_0 (IntKind.u64.wrap ((IntKind.u64.wrap ((e1_.toNat : Int).tmod 128)) * 2 ^ (min (IntKind.i64.wrap (7 * (k1_ : Int))).toNat 64)))).tmod 2 == 1) then IntKind.i64.wrap (-1 - IntKind.i64.wrap ((orI .u64 a1_0 (IntKind.u64.wrap ((IntKind.u64.wrap ((e1_.toNat : Int).tmod 128)) * 2 ^ (min (IntKind.i64.wrap (7 * (k1_ : Int))).toNat 64)))).fdiv 2)) else IntKind.i64.wrap ((orI .u64 a1_0 (IntKind.u64.wrap ((IntKind.u64.wrap ((e1_.toNat : Int).tmod 128)) * 2 ^ (min (IntKind.i64.wrap (7 * (k1_ : Int))).toNat 64)))).fdiv 2)), (⟨r.s, IntKind.i64.wrap (IntKind.i64.wrap (r.at_ + (k1_ : Int)) + 1), r.bad, r.made⟩ : RRd)) := loopS_ret hs1_ (by omega) (by unfold rrIntM_B1; (try dsimp only); (try simp only [he1_]); (try rw [h2]); (try rw [h3]); (try rw [h9]); (try rw [h11]); try kernel_rfl)
         exact leafH (.inr rfl) (r := vi (bif ((orI .u64 a1_0 (IntKind.u64.wrap ((IntKind.u64.wrap ((e1_.toNat : Int).tmod 128)) * 2 ^ (min (IntKind.i64.wrap (7 * (k1_ : Int))).toNat 64)))).tmod 2 == 1) then IntKind.i64.wrap (-1 - IntKind.i64.wrap ((orI .u64 a1_0 (IntKind.u64.wrap ((IntKind.u64.wrap ((e1_.toNat : Int).tmod 128)) * 2 ^ (min (IntKind.i64.wrap (7 * (k1_ : Int))).toNat 64)))).fdiv 2)) else IntKind.i64.wrap ((orI .u64 a1_0 (IntKind.u64.wrap ((IntKind.u64.wrap ((e1_.toNat : Int).tmod 128)) * 2 ^ (min (IntKind.i64.wrap (7 * (k1_ : Int))).toNat 64)))).fdiv 2))) (τ := [(rrIntM_c2 r k1_)]) (by show (vi (bif ((orI .u64 a1_0 (IntKind.u64.wrap ((IntKind.u64.wrap ((e1_.toNat : Int).tmod 128)) * 2 ^ (min (IntKind.i64.wrap (7 * (k1_ : Int))).toNat 64)))).tmod 2 == 1) then IntKind.i64.wrap (-1 - IntKind.i64.wrap ((orI .u64 a1_0 (IntKind.u64.wrap ((IntKind.u64.wrap ((e1_.toNat : Int).tmod 128)) * 2 ^ (min (IntKind.i64.wrap (7 * (k1_ : Int))).toNat 64)))).fdiv 2)) else IntKind.i64.wrap ((orI .u64 a1_0 (IntKind.u64.wrap ((IntKind.u64.wrap ((e1_.toNat : Int).tmod 128)) * 2 ^ (min (IntKind.i64.wrap (7 * (k1_ : Int))).toNat 64)))).fdiv 2)) : AV) = vi ((rrIntM r).1); unfold rrIntM; (try rw [h1]); (try rw [hL1_]); (try dsimp only); try kernel_rfl) (by show ([(rrIntM_c2 r k1_)] : Heap) = number 0 [.box 102 (avs (RRd.cells ((rrIntM r).2)))]; unfold rrIntM; (try rw [h1]); (try rw [hL1_]); (try dsimp only); try kernel_rfl)
       ·
        have h11' := of_decide_eq_false h11
        refine AWp.skip ?_
        refine AWp.he [.run 1, .cast (vi (IntKind.i64.wrap ((k1_ : Int) + 1))) (vi ((k1_ + 1 : Nat) : Int)) (congrArg vi (wrap_nat (by omega))), .run 1] 2086 [(0, .ptr 0 0), (rrIntM_c3 a1_0 e1_ k1_), (4, vi ((k1_ + 1 : Nat) : Int))] [(rrIntM_c1 r)] 1 ?_
        exact ⟨(k1_ + 1, (orI .u64 a1_0 (IntKind.u64.wrap ((IntKind.u64.wrap ((e1_.toNat : Int).tmod 128)) * 2 ^ (min (IntKind.i64.wrap (7 * (k1_ : Int))).toNat 64))))), ⟨by show k1_ + 1 ≤ _; omega, loopS_next hs1_ (by omega) (by unfold rrIntM_B1; (try dsimp only); (try simp only [he1_]); (try rw [h2]); (try rw [h3]); (try rw [h9]); (try rw [h11]); try kernel_rfl)⟩, by show _ - (k1_ + 1) < _ - k1_; omega, leG⟩
   ·
    have h2' := of_decide_eq_false h2
    refine AWp.exit ?_
    have hq1_ : (rrIntM_L1 r (0)) = .inr (a1_0) := loopS_end hs1_ (by omega)
    exact ⟨(a1_0), hq1_, leG⟩
  ·
   rintro a1_0 hL1_
   refine AWp.hz [.run 1] 2086 [(2, vi 0)] [(rrIntM_c1 r)] 1 ?_
   refine AWp.ret ?_
   exact leafH (.inr rfl) (r := vi 0) (τ := [(rrIntM_c1 r)]) (by show (vi 0 : AV) = vi ((rrIntM r).1); unfold rrIntM; (try rw [h1]); (try rw [hL1_]); (try dsimp only); try kernel_rfl) (by show ([(rrIntM_c1 r)] : Heap) = number 0 [.box 102 (avs (RRd.cells ((rrIntM r).2)))]; unfold rrIntM; (try rw [h1]); (try rw [hL1_]); (try dsimp only); try kernel_rfl)
theorem rrIntM_keep {r : RRd} (h : RdOk r) : RdOk (rrIntM r).2 := by
 unfold rrIntM
 cases (rrErrM r != 0) with
 | true => exact h
 | false =>
  simp only [cond_false]
  split
  ·rename_i q hq
   have key : ∀ (m k : Nat) (a : Int) (q : Int × RRd), k + m ≤ 10 → loopS (rrIntM_B1 r) k m a = .inl q → RdOk q.2 := by
    intro m
    induction m with
    | zero => intro k a r _ h; simp [loopS] at h
    | succ m ih =>
     intro k a q hk hl
     unfold loopS at hl
     split at hl
     ·rename_i q' hb
      simp only [Sum.inl.injEq] at hl
      subst hl
      obtain ⟨h1, h2, h3⟩ := h
      unfold rrIntM_B1 at hb
      simp only [cond_eq_ite, decide_eq_true_eq] at hb
      have w1 : IntKind.i64.wrap (r.at_ + (k : Int)) = r.at_ + (k : Int) := wrap64_of _ (by omega) (by omega)
      rw [w1] at hb
      split at hb
      ·cases hb; exact ⟨h1, h2, h3⟩
      ·rename_i hlt
       have w2 : IntKind.i64.wrap (r.at_ + (k : Int) + 1) = r.at_ + (k : Int) + 1 := wrap64_of _ (by omega) (by omega)
       rw [w2] at hb
       split at hb
       ·split at hb
        ·cases hb; exact ⟨h1, h2, h3⟩
        ·split at hb
         ·cases hb; exact ⟨by first | omega | (dsimp only; omega), by first | omega | (dsimp only; omega), h3⟩
         ·cases hb
       ·cases hb
     ·cases hl
     ·exact ih _ _ _ (by omega) hl
   exact key _ _ _ _ (by omega) hq
  ·exact h
def rrCountM (r : RRd) (n : Int) : (Int × RRd) :=
 (bif ((rrErrM ((rrIntM r).2)) != 0) then (0, ((rrIntM r).2)) else (bif decide ((rrIntM r).1 < 0) then (0, (⟨((rrIntM r).2).s, ((rrIntM r).2).at_, 4, ((rrIntM r).2).made⟩ : RRd)) else (bif decide ((rrIntM r).1 > (bif decide (n < 0) then 0 else n)) then (0, (⟨((rrIntM r).2).s, ((rrIntM r).2).at_, 3, ((rrIntM r).2).made⟩ : RRd)) else ((rrIntM r).1, ((rrIntM r).2)))))
abbrev rrCountM_c1 (r : RRd) : Nat × AObj := (0, .box 102 (avs (RRd.cells ((rrIntM r).2))))
abbrev rrCountM_c2 (r : RRd) : Nat × AObj := (0, .box 102 [vs (((rrIntM r).2).s), vi (((rrIntM r).2).at_), vi 4, vb (((rrIntM r).2).made)])
abbrev rrCountM_c3 (r : RRd) : Nat × AObj := (0, .box 102 [vs (((rrIntM r).2).s), vi (((rrIntM r).2).at_), vi 3, vb (((rrIntM r).2).made)])
theorem rrCountM_ok (r : RRd) (n : Int) (ho : RdOk r) :
 ACalls Try.prog G_ 59 [.ptr 0 0, vi n] (number 0 [.box 102 (avs (RRd.cells r))]) 1 (fun r_ τ_ => r_ = vi ((rrCountM r n).1) ∧ τ_ = number 0 [.box 102 (avs (RRd.cells ((rrCountM r n).2)))]) := by
 refine ACalls.bodyH Try.func59 rfl 2025 [(0, .ptr 0 0), (1, vi n)] ?_
 refine AWp.hz [.run 1] 2025 [(0, .ptr 0 0), (1, vi n)] [(0, .box 102 (avs (RRd.cells r)))] 1 ?_
 refine AWp.rg ?_
 refine AOps.hz [.run 1] 2025 [(0, .ptr 0 0), (1, vi n), (6, .ptr 0 0)] [(0, .box 102 (avs (RRd.cells r)))] 1 ?_
 refine AOps.callX 57 [] [] [0] [.box 102 (avs (RRd.cells r))] [.box 102 (avs (RRd.cells ((rrIntM r).2)))] (.func 57) [(.tmp 6)] [.ptr 0 0] (vi ((rrIntM r).1)) (rrIntM_ok r (by first | assumption | omega | (repeat (first | with_reducible assumption | with_reducible apply rrIntM_keep | with_reducible apply rrTextM_keep | with_reducible apply rrCountM_keep | with_reducible apply rtakeM_v2_keep | with_reducible apply rtakeM_keep)))) ?_
 refine AOps.he [.run 1] 2025 [(0, .ptr 0 0), (1, vi n), (5, vi ((rrIntM r).1))] [(rrCountM_c1 r)] 1 ?_
 refine AWp.join (Z 2025 [(0, .ptr 0 0), (1, vi (bif decide (n < 0) then 0 else n)), (5, vi ((rrIntM r).1))] [(0, .box 102 (avs (RRd.cells ((rrIntM r).2))))] 1) ?_ ?_
 ·
  refine AWp.hz [.run 2] 2025 [(0, .ptr 0 0), (1, vi n), (5, vi ((rrIntM r).1)), (9, vb (decide (n < 0)))] [(rrCountM_c1 r)] 1 ?_
  refine AWp.cnd (decide (n < 0)) (fun h1 => ?_) (fun h1 => ?_)
  ·
   have h1' := of_decide_eq_true h1
   refine AWp.he [.run 1] 2025 [(0, .ptr 0 0), (1, vi 0), (5, vi ((rrIntM r).1))] [(rrCountM_c1 r)] 1 ?_
   exact leZ (by rw [h1]; try kernel_rfl)
  ·
   have h1' := of_decide_eq_false h1
   refine AWp.skip ?_
   exact leZ (by rw [h1]; try kernel_rfl)
 ·
  refine AWp.seq ?_
  refine AWp.rg ?_
  refine AOps.hz [.run 1] 2025 [(0, .ptr 0 0), (1, vi (bif decide (n < 0) then 0 else n)), (5, vi ((rrIntM r).1)), (10, .ptr 0 0)] [(rrCountM_c1 r)] 1 ?_
  refine AOps.callX 58 [] [] [0] [.box 102 (avs (RRd.cells ((rrIntM r).2)))] [.box 102 (avs (RRd.cells ((rrIntM r).2)))] (.func 58) [(.tmp 10)] [.ptr 0 0] (vi (rrErrM ((rrIntM r).2))) (rrErrM_ok ((rrIntM r).2)) ?_
  refine AOps.he [.run 1] 2025 [(0, .ptr 0 0), (1, vi (bif decide (n < 0) then 0 else n)), (5, vi ((rrIntM r).1)), (12, vb ((rrErrM ((rrIntM r).2)) != 0))] [(rrCountM_c1 r)] 1 ?_
  refine AWp.cnd (((rrErrM ((rrIntM r).2)) != 0)) (fun h2 => ?_) (fun h2 => ?_)
  ·
   refine AWp.hz [.run 1] 2025 [(4, vi 0)] [(rrCountM_c1 r)] 1 ?_
   refine AWp.ret ?_
   exact leafH (.inr rfl) (r := vi 0) (τ := [(rrCountM_c1 r)]) (by show (vi 0 : AV) = vi ((rrCountM r n).1); unfold rrCountM; (try rw [h2]); try kernel_rfl) (by show ([(rrCountM_c1 r)] : Heap) = number 0 [.box 102 (avs (RRd.cells ((rrCountM r n).2)))]; unfold rrCountM; (try rw [h2]); try kernel_rfl)
  ·
   refine AWp.skip ?_
   refine AWp.seq ?_
   refine AWp.hz [.run 2] 2025 [(0, .ptr 0 0), (1, vi (bif decide (n < 0) then 0 else n)), (5, vi ((rrIntM r).1)), (14, vb (decide ((rrIntM r).1 < 0)))] [(rrCountM_c1 r)] 1 ?_
   refine AWp.cnd (decide ((rrIntM r).1 < 0)) (fun h3 => ?_) (fun h3 => ?_)
   ·
    have h3' := of_decide_eq_true h3
    refine AWp.hz [.run 4] 2025 [] [(rrCountM_c2 r)] 1 ?_
    refine AWp.hz [.run 1] 2025 [(4, vi 0)] [(rrCountM_c2 r)] 1 ?_
    refine AWp.ret ?_
    exact leafH (.inr rfl) (r := vi 0) (τ := [(rrCountM_c2 r)]) (by show (vi 0 : AV) = vi ((rrCountM r n).1); unfold rrCountM; (try rw [h2]); (try rw [h3]); try kernel_rfl) (by show ([(rrCountM_c2 r)] : Heap) = number 0 [.box 102 (avs (RRd.cells ((rrCountM r n).2)))]; unfold rrCountM; (try rw [h2]); (try rw [h3]); try kernel_rfl)
   ·
    have h3' := of_decide_eq_false h3
    refine AWp.skip ?_
    refine AWp.seq ?_
    refine AWp.hz [.run 3] 2025 [(0, .ptr 0 0), (5, vi ((rrIntM r).1)), (20, vb (decide ((rrIntM r).1 > (bif decide (n < 0) then 0 else n))))] [(rrCountM_c1 r)] 1 ?_
    refine AWp.cnd (decide ((rrIntM r).1 > (bif decide (n < 0) then 0 else n))) (fun h4 => ?_) (fun h4 => ?_)
    ·
     have h4' := of_decide_eq_true h4
     refine AWp.hz [.run 4] 2025 [] [(rrCountM_c3 r)] 1 ?_
     refine AWp.hz [.run 1] 2025 [(4, vi 0)] [(rrCountM_c3 r)] 1 ?_
     refine AWp.ret ?_
     exact leafH (.inr rfl) (r := vi 0) (τ := [(rrCountM_c3 r)]) (by show (vi 0 : AV) = vi ((rrCountM r n).1); unfold rrCountM; (try rw [h2]); (try rw [h3]); (try rw [h4]); try kernel_rfl) (by show ([(rrCountM_c3 r)] : Heap) = number 0 [.box 102 (avs (RRd.cells ((rrCountM r n).2)))]; unfold rrCountM; (try rw [h2]); (try rw [h3]); (try rw [h4]); try kernel_rfl)
    ·
     have h4' := of_decide_eq_false h4
     refine AWp.skip ?_
     refine AWp.hz [.run 2] 2025 [(4, vi ((rrIntM r).1))] [(rrCountM_c1 r)] 1 ?_
     refine AWp.ret ?_
     exact leafH (.inr rfl) (r := vi ((rrIntM r).1)) (τ := [(rrCountM_c1 r)]) (by show (vi ((rrIntM r).1) : AV) = vi ((rrCountM r n).1); unfold rrCountM; (try rw [h2]); (try rw [h3]); (try rw [h4]); try kernel_rfl) (by show ([(rrCountM_c1 r)] : Heap) = number 0 [.box 102 (avs (RRd.cells ((rrCountM r n).2)))]; unfold rrCountM; (try rw [h2]); (try rw [h3]); (try rw [h4]); try kernel_rfl)
theorem rrCountM_nn (r : RRd) (n : Int) : 0 ≤ (rrCountM r n).1 := by
 unfold rrCountM
 cases hA : (rrErrM ((rrIntM r).2) != 0) with
 | true => exact Int.le_refl _
 | false =>
  simp only [cond_false]
  cases hB : decide ((rrIntM r).1 < 0) with
  | true => exact Int.le_refl _
  | false =>
   have hB := of_decide_eq_false hB
   simp only [cond_false, cond_eq_ite]
   repeat' split
   all_goals first | exact Int.le_refl _ | omega | (dsimp only; omega)
theorem rrCountM_le (r : RRd) (n : Int) (hn : 0 ≤ n) : (rrCountM r n).1 ≤ n := by
 unfold rrCountM
 simp only [cond_eq_ite, decide_eq_true_eq]
 repeat' split
 all_goals first | exact hn | omega | (dsimp only; omega)
theorem rrCountM_keep {r : RRd} {n : Int} (h : RdOk r) : RdOk (rrCountM r n).2 := by
 have h := rrIntM_keep h
 unfold rrCountM
 simp only [cond_eq_ite]
 repeat' split
 all_goals exact h
def rrTextM (r : RRd) (n : Int) : (ByteArray × RRd) :=
 (bif ((rrErrM ((rrCountM r n).2)) != 0) then (⟨#[]⟩, ((rrCountM r n).2)) else (bif decide ((rrCountM r n).1 > IntKind.i64.wrap ((((((rrCountM r n).2).s).size : Nat) : Int) - ((rrCountM r n).2).at_)) then (⟨#[]⟩, (⟨((rrCountM r n).2).s, ((rrCountM r n).2).at_, 5, ((rrCountM r n).2).made⟩ : RRd)) else ((((rrCountM r n).2).s).extract ((((rrCountM r n).2).at_).toNat) ((((rrCountM r n).2).at_ + (rrCountM r n).1).toNat), (⟨((rrCountM r n).2).s, IntKind.i64.wrap (((rrCountM r n).2).at_ + (rrCountM r n).1), ((rrCountM r n).2).bad, ((rrCountM r n).2).made⟩ : RRd))))
abbrev rrTextM_c1 (r : RRd) (n : Int) : Nat × AObj := (0, .box 102 (avs (RRd.cells ((rrCountM r n).2))))
abbrev rrTextM_c2 (r : RRd) (n : Int) : Nat × AObj := (0, .box 102 [vs (((rrCountM r n).2).s), vi (IntKind.i64.wrap (((rrCountM r n).2).at_ + (rrCountM r n).1)), vi (((rrCountM r n).2).bad), vb (((rrCountM r n).2).made)])
abbrev rrTextM_c3 (r : RRd) (n : Int) : Nat × AObj := (0, .box 102 [vs (((rrCountM r n).2).s), vi (((rrCountM r n).2).at_), vi 5, vb (((rrCountM r n).2).made)])
abbrev rrTextM_c4 (r : RRd) (n : Int) : Nat × AV := (41, vi (IntKind.i64.wrap (((rrCountM r n).2).at_ + (rrCountM r n).1)))
theorem rrTextM_ok (r : RRd) (n : Int) (ho : RdOk r) :
 ACalls Try.prog G_ 60 [.ptr 0 0, vi n] (number 0 [.box 102 (avs (RRd.cells r))]) 1 (fun r_ τ_ => r_ = vs ((rrTextM r n).1) ∧ τ_ = number 0 [.box 102 (avs (RRd.cells ((rrTextM r n).2)))]) := by
 have ho0 := ho; obtain ⟨ha, hs, hz⟩ := ho0
 refine ACalls.bodyH Try.func60 rfl 2053 [(0, .ptr 0 0), (1, vi n)] ?_
 refine AWp.hz [.run 1] 2053 [(0, .ptr 0 0), (1, vi n)] [(0, .box 102 (avs (RRd.cells r)))] 1 ?_
 refine AWp.rg ?_
 refine AOps.hz [.run 2] 2053 [(0, .ptr 0 0), (7, .ptr 0 0), (8, vi n)] [(0, .box 102 (avs (RRd.cells r)))] 1 ?_
 refine AOps.callX 59 [] [] [0] [.box 102 (avs (RRd.cells r))] [.box 102 (avs (RRd.cells ((rrCountM r n).2)))] (.func 59) [(.tmp 7), (.tmp 8)] [.ptr 0 0, vi n] (vi ((rrCountM r n).1)) (rrCountM_ok r n (by first | assumption | omega | (repeat (first | with_reducible assumption | with_reducible apply rrIntM_keep | with_reducible apply rrTextM_keep | with_reducible apply rrCountM_keep | with_reducible apply rtakeM_v2_keep | with_reducible apply rtakeM_keep)))) ?_
 obtain ⟨hk1_, hk2_, hk3_⟩ := rrCountM_keep (r := r) (n := n) (by assumption); have := rrCountM_nn r n
 have hkw_ : IntKind.i64.wrap ((((rrCountM r n).2.s.size : Nat) : Int) - (rrCountM r n).2.at_) = (((rrCountM r n).2.s.size : Nat) : Int) - (rrCountM r n).2.at_ := wrap64_of _ (by omega) (by omega)
 refine AOps.he [.run 1] 2053 [(0, .ptr 0 0), (5, vi ((rrCountM r n).1))] [(rrTextM_c1 r n)] 1 ?_
 refine AWp.seq ?_
 refine AWp.rg ?_
 refine AOps.hz [.run 1] 2053 [(0, .ptr 0 0), (5, vi ((rrCountM r n).1)), (10, .ptr 0 0)] [(rrTextM_c1 r n)] 1 ?_
 refine AOps.callX 58 [] [] [0] [.box 102 (avs (RRd.cells ((rrCountM r n).2)))] [.box 102 (avs (RRd.cells ((rrCountM r n).2)))] (.func 58) [(.tmp 10)] [.ptr 0 0] (vi (rrErrM ((rrCountM r n).2))) (rrErrM_ok ((rrCountM r n).2)) ?_
 refine AOps.he [.run 1] 2053 [(0, .ptr 0 0), (5, vi ((rrCountM r n).1)), (12, vb ((rrErrM ((rrCountM r n).2)) != 0))] [(rrTextM_c1 r n)] 1 ?_
 refine AWp.cnd (((rrErrM ((rrCountM r n).2)) != 0)) (fun h1 => ?_) (fun h1 => ?_)
 ·
  refine AWp.hz [.run 1] 2053 [(4, vs (⟨#[]⟩))] [(rrTextM_c1 r n)] 1 ?_
  refine AWp.ret ?_
  exact leafH (.inr rfl) (r := vs (⟨#[]⟩)) (τ := [(rrTextM_c1 r n)]) (by show (vs (⟨#[]⟩) : AV) = vs ((rrTextM r n).1); unfold rrTextM; (try rw [h1]); try kernel_rfl) (by show ([(rrTextM_c1 r n)] : Heap) = number 0 [.box 102 (avs (RRd.cells ((rrTextM r n).2)))]; unfold rrTextM; (try rw [h1]); try kernel_rfl)
 ·
  refine AWp.skip ?_
  refine AWp.seq ?_
  refine AWp.dz [vi ((rrCountM r n).1), .ptr 0 0, .ptr 0 0, .ptr 0 0, vs (((rrCountM r n).2).s), vi (((((rrCountM r n).2).s).size : Nat) : Int), .ptr 0 0, .ptr 0 0, .ptr 0 1, vi (((rrCountM r n).2).at_), vi (IntKind.i64.wrap ((((((rrCountM r n).2).s).size : Nat) : Int) - ((rrCountM r n).2).at_)), vb (decide ((rrCountM r n).1 > IntKind.i64.wrap ((((((rrCountM r n).2).s).size : Nat) : Int) - ((rrCountM r n).2).at_)))] 2053 [(0, .ptr 0 0), (5, vi ((rrCountM r n).1)), (24, vb (decide ((rrCountM r n).1 > IntKind.i64.wrap ((((((rrCountM r n).2).s).size : Nat) : Int) - ((rrCountM r n).2).at_))))] [(rrTextM_c1 r n)] 1 ?_ ?_
  ·
   refine DSteps.cons (DStep.va) ?_
   refine DSteps.cons (DStep.va) ?_
   refine DSteps.cons (DStep.va) ?_
   refine DSteps.cons (DStep.va) ?_
   refine DSteps.cons (DStep.va) ?_
   refine DSteps.cons (DStep.va) ?_
   refine DSteps.cons (DStep.va) ?_
   refine DSteps.cons (DStep.va) ?_
   refine DSteps.cons (DStep.va) ?_
   refine DSteps.cons (DStep.va) ?_
   refine DSteps.cons (DStep.va) ?_
   refine DSteps.cons (DStep.va) ?_
   exact DSteps.nl
  refine AWp.cnd (decide ((rrCountM r n).1 > IntKind.i64.wrap ((((((rrCountM r n).2).s).size : Nat) : Int) - ((rrCountM r n).2).at_))) (fun h2 => ?_) (fun h2 => ?_)
  ·
   have h2' := of_decide_eq_true h2
   refine AWp.hz [.run 4] 2053 [] [(rrTextM_c3 r n)] 1 ?_
   refine AWp.hz [.run 1] 2053 [(4, vs (⟨#[]⟩))] [(rrTextM_c3 r n)] 1 ?_
   refine AWp.ret ?_
   exact leafH (.inr rfl) (r := vs (⟨#[]⟩)) (τ := [(rrTextM_c3 r n)]) (by show (vs (⟨#[]⟩) : AV) = vs ((rrTextM r n).1); unfold rrTextM; (try rw [h1]); (try rw [h2]); try kernel_rfl) (by show ([(rrTextM_c3 r n)] : Heap) = number 0 [.box 102 (avs (RRd.cells ((rrTextM r n).2)))]; unfold rrTextM; (try rw [h1]); (try rw [h2]); try kernel_rfl)
  ·
   have h2' := of_decide_eq_false h2
   refine AWp.skip ?_
   have ht3 : (((rrCountM r n).2).at_) = (((((rrCountM r n).2).at_).toNat : Nat) : Int) := (Int.toNat_of_nonneg (by omega)).symm
   have ht4 : IntKind.i64.wrap (((rrCountM r n).2).at_ + (rrCountM r n).1) = (((((rrCountM r n).2).at_ + (rrCountM r n).1).toNat : Nat) : Int) := by rw [wrap64_of _ (by omega) (by omega)]; exact (Int.toNat_of_nonneg (by omega)).symm
   have ht5 : (((rrCountM r n).2).at_) = (((((rrCountM r n).2).at_).toNat : Nat) : Int) := (Int.toNat_of_nonneg (by omega)).symm
   have ht6 : IntKind.i64.wrap (((rrCountM r n).2).at_ + (rrCountM r n).1) = (((((rrCountM r n).2).at_ + (rrCountM r n).1).toNat : Nat) : Int) := by rw [wrap64_of _ (by omega) (by omega)]; exact (Int.toNat_of_nonneg (by omega)).symm
   refine AWp.seq ?_
   refine AWp.cut (fuel := 0) (m := [true, true, true, true, true, true, true, true, true, true, true, true, true, true, true, true]) (s := Z 2053 [(0, .ptr 0 0), (5, vi ((rrCountM r n).1)), (6, vs ((((rrCountM r n).2).s).extract ((((rrCountM r n).2).at_).toNat) ((((rrCountM r n).2).at_ + (rrCountM r n).1).toNat)))] [(rrTextM_c1 r n)] 1) (AD.done ?_) (fun hd9 => ?_)
   ·
    refine AWp.hz [.run 10] 2053 [(6, vs ((((rrCountM r n).2).s).extract ((((rrCountM r n).2).at_).toNat) ((((rrCountM r n).2).at_ + (rrCountM r n).1).toNat)))] [(rrTextM_c2 r n)] 1 ?_
    refine AWp.hz [.run 2] 2053 [(4, vs ((((rrCountM r n).2).s).extract ((((rrCountM r n).2).at_).toNat) ((((rrCountM r n).2).at_ + (rrCountM r n).1).toNat)))] [(rrTextM_c2 r n)] 1 ?_
    refine AWp.ret ?_
    exact leafH (.inr rfl) (r := vs ((((rrCountM r n).2).s).extract ((((rrCountM r n).2).at_).toNat) ((((rrCountM r n).2).at_ + (rrCountM r n).1).toNat))) (τ := [(rrTextM_c2 r n)]) (by show (vs ((((rrCountM r n).2).s).extract ((((rrCountM r n).2).at_).toNat) ((((rrCountM r n).2).at_ + (rrCountM r n).1).toNat)) : AV) = vs ((rrTextM r n).1); unfold rrTextM; (try rw [h1]); (try rw [h2]); try kernel_rfl) (by show ([(rrTextM_c2 r n)] : Heap) = number 0 [.box 102 (avs (RRd.cells ((rrTextM r n).2)))]; unfold rrTextM; (try rw [h1]); (try rw [h2]); try kernel_rfl)
   refine AWp.cut (fuel := 1) (m := [true, true, true, true, true, true, true, true, true, true, true, true, true, true, true, false]) (s := Z 2053 [(0, .ptr 0 0), (5, vi ((rrCountM r n).1)), (42, vs ((((rrCountM r n).2).s).extract ((((rrCountM r n).2).at_).toNat) ((((rrCountM r n).2).at_ + (rrCountM r n).1).toNat)))] [(rrTextM_c1 r n)] 1) (AD.tk 15 _ _ _ _ hd9) (fun hd10 => ?_)
   refine AWp.cut (fuel := 2) (m := [true, true, true, true, true, true, true, true, true, true, true, true, true, true, false, false]) (s := Z 2053 [(0, .ptr 0 0), (5, vi ((rrCountM r n).1)), (31, vs (((rrCountM r n).2).s)), (35, vi (((rrCountM r n).2).at_)), (rrTextM_c4 r n)] [(rrTextM_c1 r n)] 1) (AD.step 14 [] (ADs.cons _ rfl ?_ hd10 (ADs.nil))) (fun hd11 => ?_)
   ·
    have ht7 : (((rrCountM r n).2).at_) = (((((rrCountM r n).2).at_).toNat : Nat) : Int) := (Int.toNat_of_nonneg (by omega)).symm
    have ht8 : IntKind.i64.wrap (((rrCountM r n).2).at_ + (rrCountM r n).1) = (((((rrCountM r n).2).at_ + (rrCountM r n).1).toNat : Nat) : Int) := by rw [wrap64_of _ (by omega) (by omega)]; exact (Int.toNat_of_nonneg (by omega)).symm
    refine AOps.he [.slot 35 (vi (((rrCountM r n).2).at_)) (vi (((((rrCountM r n).2).at_).toNat : Nat) : Int)) (congrArg vi ht7), .slot 41 (vi (IntKind.i64.wrap (((rrCountM r n).2).at_ + (rrCountM r n).1))) (vi (((((rrCountM r n).2).at_ + (rrCountM r n).1).toNat : Nat) : Int)) (congrArg vi ht8), .slcS (((rrCountM r n).2).s) (some ((((rrCountM r n).2).at_).toNat)) (some ((((rrCountM r n).2).at_ + (rrCountM r n).1).toNat)) (by first | omega | (simp only [Option.getD_some, Option.getD_none]; omega)) (by first | omega | (simp only [Option.getD_some, Option.getD_none]; omega))] 2053 [(0, .ptr 0 0), (5, vi ((rrCountM r n).1)), (42, vs ((((rrCountM r n).2).s).extract ((((rrCountM r n).2).at_).toNat) ((((rrCountM r n).2).at_ + (rrCountM r n).1).toNat)))] [(rrTextM_c1 r n)] 1 ?_
    exact ⟨rfl, rfl⟩
   refine AWp.cut (fuel := 3) (m := [true, true, true, true, true, true, true, true, true, true, true, true, true, false, false, false]) (s := Z 2053 [(0, .ptr 0 0), (5, vi ((rrCountM r n).1)), (31, vs (((rrCountM r n).2).s)), (35, vi (((rrCountM r n).2).at_)), (39, vi (((rrCountM r n).2).at_)), (40, vi ((rrCountM r n).1))] [(rrTextM_c1 r n)] 1) (AD.tkV 13 _ _ _ _ hd11) (fun hd12 => ?_)
   refine AWp.cut (fuel := 3) (m := [true, true, true, true, true, true, true, false, true, true, true, true, true, true, false, false]) (s := Z 2053 [(0, .ptr 0 0), (5, vi ((rrCountM r n).1)), (31, vs (((rrCountM r n).2).s)), (34, .ptr 0 1), (rrTextM_c4 r n)] [(rrTextM_c1 r n)] 1) (AD.step 7 [] (ADs.cons _ rfl (AOps.he [.run 1] _ _ _ _ ⟨rfl, rfl⟩) hd11 (ADs.nil))) (fun hd13 => ?_)
   refine AWp.cut (fuel := 3) (m := [true, true, true, false, true, true, true, true, true, true, true, true, true, true, false, false]) (s := Z 2053 [(0, .ptr 0 0), (5, vi ((rrCountM r n).1)), (30, .ptr 0 0), (35, vi (((rrCountM r n).2).at_)), (rrTextM_c4 r n)] [(rrTextM_c1 r n)] 1) (AD.step 3 [] (ADs.cons _ rfl (AOps.he [.run 1] _ _ _ _ ⟨rfl, rfl⟩) hd11 (ADs.nil))) (fun hd14 => ?_)
   refine AWp.cut (fuel := 4) (m := [true, true, true, true, true, true, true, true, true, true, true, false, true, false, false, false]) (s := Z 2053 [(0, .ptr 0 0), (5, vi ((rrCountM r n).1)), (31, vs (((rrCountM r n).2).s)), (35, vi (((rrCountM r n).2).at_)), (38, .ptr 0 1), (40, vi ((rrCountM r n).1))] [(rrTextM_c1 r n)] 1) (AD.step 11 [] (ADs.cons _ rfl (AOps.he [.run 1] _ _ _ _ ⟨rfl, rfl⟩) hd12 (ADs.nil))) (fun hd15 => ?_)
   refine AWp.cut (fuel := 4) (m := [true, true, true, true, true, true, true, false, true, true, true, true, true, false, false, false]) (s := Z 2053 [(0, .ptr 0 0), (5, vi ((rrCountM r n).1)), (31, vs (((rrCountM r n).2).s)), (34, .ptr 0 1), (39, vi (((rrCountM r n).2).at_)), (40, vi ((rrCountM r n).1))] [(rrTextM_c1 r n)] 1) (AD.tkV 13 _ _ _ _ hd13) (fun hd16 => ?_)
   refine AWp.cut (fuel := 4) (m := [true, true, true, false, true, true, true, true, true, true, true, true, true, false, false, false]) (s := Z 2053 [(0, .ptr 0 0), (5, vi ((rrCountM r n).1)), (30, .ptr 0 0), (35, vi (((rrCountM r n).2).at_)), (39, vi (((rrCountM r n).2).at_)), (40, vi ((rrCountM r n).1))] [(rrTextM_c1 r n)] 1) (AD.tkV 13 _ _ _ _ hd14) (fun hd17 => ?_)
   refine AWp.cut (fuel := 4) (m := [true, true, true, false, true, true, true, false, true, true, true, true, true, true, false, false]) (s := Z 2053 [(0, .ptr 0 0), (5, vi ((rrCountM r n).1)), (30, .ptr 0 0), (34, .ptr 0 1), (rrTextM_c4 r n)] [(rrTextM_c1 r n)] 1) (AD.step 3 [7] (ADs.cons _ rfl (AOps.he [.run 1] _ _ _ _ ⟨rfl, rfl⟩) hd13 (ADs.cons _ rfl (AOps.he [.run 1] _ _ _ _ ⟨rfl, rfl⟩) hd14 (ADs.nil)))) (fun hd18 => ?_)
   refine AWp.cut (fuel := 5) (m := [true, true, true, true, true, true, true, false, true, true, true, false, true, false, false, false]) (s := Z 2053 [(0, .ptr 0 0), (5, vi ((rrCountM r n).1)), (31, vs (((rrCountM r n).2).s)), (34, .ptr 0 1), (38, .ptr 0 1), (40, vi ((rrCountM r n).1))] [(rrTextM_c1 r n)] 1) (AD.step 7 [11] (ADs.cons _ rfl (AOps.he [.run 1] _ _ _ _ ⟨rfl, rfl⟩) hd15 (ADs.cons _ rfl (AOps.he [.run 1] _ _ _ _ ⟨rfl, rfl⟩) hd16 (ADs.nil)))) (fun hd19 => ?_)
   refine AWp.cut (fuel := 5) (m := [true, true, true, false, true, true, true, true, true, true, true, false, true, false, false, false]) (s := Z 2053 [(0, .ptr 0 0), (5, vi ((rrCountM r n).1)), (30, .ptr 0 0), (35, vi (((rrCountM r n).2).at_)), (38, .ptr 0 1), (40, vi ((rrCountM r n).1))] [(rrTextM_c1 r n)] 1) (AD.step 3 [11] (ADs.cons _ rfl (AOps.he [.run 1] _ _ _ _ ⟨rfl, rfl⟩) hd15 (ADs.cons _ rfl (AOps.he [.run 1] _ _ _ _ ⟨rfl, rfl⟩) hd17 (ADs.nil)))) (fun hd20 => ?_)
   refine AWp.cut (fuel := 5) (m := [true, true, true, false, true, true, true, false, true, true, true, true, true, false, false, false]) (s := Z 2053 [(0, .ptr 0 0), (5, vi ((rrCountM r n).1)), (30, .ptr 0 0), (34, .ptr 0 1), (39, vi (((rrCountM r n).2).at_)), (40, vi ((rrCountM r n).1))] [(rrTextM_c1 r n)] 1) (AD.tkV 13 _ _ _ _ hd18) (fun hd21 => ?_)
   refine AWp.cut (fuel := 6) (m := [true, true, true, false, true, true, true, false, true, true, true, false, true, false, false, false]) (s := Z 2053 [(0, .ptr 0 0), (5, vi ((rrCountM r n).1)), (30, .ptr 0 0), (34, .ptr 0 1), (38, .ptr 0 1), (40, vi ((rrCountM r n).1))] [(rrTextM_c1 r n)] 1) (AD.step 3 [7, 11] (ADs.cons _ rfl (AOps.he [.run 1] _ _ _ _ ⟨rfl, rfl⟩) hd19 (ADs.cons _ rfl (AOps.he [.run 1] _ _ _ _ ⟨rfl, rfl⟩) hd20 (ADs.cons _ rfl (AOps.he [.run 1] _ _ _ _ ⟨rfl, rfl⟩) hd21 (ADs.nil))))) (fun hd22 => ?_)
   refine AWp.cut (fuel := 7) (m := [true, true, true, false, true, true, true, false, true, true, true, false, false, false, false, false]) (s := Z 2053 [(0, .ptr 0 0), (5, vi ((rrCountM r n).1)), (30, .ptr 0 0), (34, .ptr 0 1), (38, .ptr 0 1)] [(rrTextM_c1 r n)] 1) (AD.tk 12 _ _ _ _ hd22) (fun hd23 => ?_)
   refine AWp.cut (fuel := 8) (m := [true, true, true, false, true, true, true, false, true, true, false, false, false, false, false, false]) (s := Z 2053 [(0, .ptr 0 0), (5, vi ((rrCountM r n).1)), (30, .ptr 0 0), (34, .ptr 0 1), (37, .ptr 0 0)] [(rrTextM_c1 r n)] 1) (AD.tk 10 _ _ _ _ hd23) (fun hd24 => ?_)
   refine AWp.cut (fuel := 9) (m := [true, true, true, false, true, true, true, false, true, false, false, false, false, false, false, false]) (s := Z 2053 [(0, .ptr 0 0), (5, vi ((rrCountM r n).1)), (30, .ptr 0 0), (34, .ptr 0 1), (36, .ptr 0 0)] [(rrTextM_c1 r n)] 1) (AD.tk 9 _ _ _ _ hd24) (fun hd25 => ?_)
   refine AWp.cut (fuel := 10) (m := [true, true, true, false, true, true, true, false, false, false, false, false, false, false, false, false]) (s := Z 2053 [(0, .ptr 0 0), (5, vi ((rrCountM r n).1)), (30, .ptr 0 0), (34, .ptr 0 1)] [(rrTextM_c1 r n)] 1) (AD.tk 8 _ _ _ _ hd25) (fun hd26 => ?_)
   refine AWp.cut (fuel := 11) (m := [true, true, true, false, true, true, false, false, false, false, false, false, false, false, false, false]) (s := Z 2053 [(0, .ptr 0 0), (5, vi ((rrCountM r n).1)), (30, .ptr 0 0), (33, .ptr 0 0)] [(rrTextM_c1 r n)] 1) (AD.tk 6 _ _ _ _ hd26) (fun hd27 => ?_)
   refine AWp.cut (fuel := 12) (m := [true, true, true, false, true, false, false, false, false, false, false, false, false, false, false, false]) (s := Z 2053 [(0, .ptr 0 0), (5, vi ((rrCountM r n).1)), (30, .ptr 0 0), (32, .ptr 0 0)] [(rrTextM_c1 r n)] 1) (AD.tk 5 _ _ _ _ hd27) (fun hd28 => ?_)
   refine AWp.cut (fuel := 13) (m := [true, true, true, false, false, false, false, false, false, false, false, false, false, false, false, false]) (s := Z 2053 [(0, .ptr 0 0), (5, vi ((rrCountM r n).1)), (30, .ptr 0 0)] [(rrTextM_c1 r n)] 1) (AD.tk 4 _ _ _ _ hd28) (fun hd29 => ?_)
   refine AWp.cut (fuel := 14) (m := [true, true, false, false, false, false, false, false, false, false, false, false, false, false, false, false]) (s := Z 2053 [(0, .ptr 0 0), (5, vi ((rrCountM r n).1)), (29, .ptr 0 0)] [(rrTextM_c1 r n)] 1) (AD.tk 2 _ _ _ _ hd29) (fun hd30 => ?_)
   refine AWp.cut (fuel := 15) (m := [true, false, false, false, false, false, false, false, false, false, false, false, false, false, false, false]) (s := Z 2053 [(0, .ptr 0 0), (5, vi ((rrCountM r n).1)), (28, .ptr 0 0)] [(rrTextM_c1 r n)] 1) (AD.tk 1 _ _ _ _ hd30) (fun hd31 => ?_)
   refine AWp.cut (fuel := 16) (m := [false, false, false, false, false, false, false, false, false, false, false, false, false, false, false, false]) (s := Z 2053 [(0, .ptr 0 0), (5, vi ((rrCountM r n).1))] [(rrTextM_c1 r n)] 1) (AD.tk 0 _ _ _ _ hd31) (fun hd32 => ?_)
   exact AWp.drawnA 16 leZ hd32
theorem rrTextM_keep {r : RRd} {n : Int} (h : RdOk r) : RdOk (rrTextM r n).2 := by
 have h := rrCountM_keep (n := n) h
 have hn := rrCountM_nn r n
 unfold rrTextM
 generalize hc : rrCountM r n = c at *
 obtain ⟨h1, h2, h3⟩ := h
 have w1 : IntKind.i64.wrap ((c.2.s.size : Int) - c.2.at_) = (c.2.s.size : Int) - c.2.at_ := wrap64_of _ (by omega) (by omega)
 rw [w1]
 simp only [cond_eq_ite, decide_eq_true_eq]
 repeat' split
 ·exact ⟨h1, h2, h3⟩
 ·exact ⟨h1, h2, h3⟩
 ·have w2 : IntKind.i64.wrap (c.2.at_ + c.1) = c.2.at_ + c.1 := wrap64_of _ (by omega) (by omega)
  rw [w2]
  exact ⟨by first | omega | (dsimp only; omega), by first | omega | (dsimp only; omega), h3⟩
def rtakeM_v1 (r : RRd) : Val := (bif ((rrIntM r).1 == 4) then (⟨(rrIntM r).1, 0, (rrTextM ((rrIntM r).2) 60).1⟩ : Val) else (⟨(rrIntM r).1, 0, ⟨#[]⟩⟩ : Val))
def rtakeM_v2 (r : RRd) : RRd := (bif ((rrIntM r).1 == 4) then ((rrTextM ((rrIntM r).2) 60).2) else ((rrIntM r).2))
def rtakeM_v3 (r : RRd) : Val := (bif (decide ((rtakeM_v1 r).kind ≥ 1) && decide ((rtakeM_v1 r).kind ≤ 3)) then (⟨(rtakeM_v1 r).kind, (rrIntM (rtakeM_v2 r)).1, (rtakeM_v1 r).s⟩ : Val) else (rtakeM_v1 r))
def rtakeM_v4 (r : RRd) : RRd := (bif (decide ((rtakeM_v1 r).kind ≥ 1) && decide ((rtakeM_v1 r).kind ≤ 3)) then ((rrIntM (rtakeM_v2 r)).2) else (rtakeM_v2 r))
def rtakeM_v5 (r : RRd) : RRd := (bif (((rrErrM (rtakeM_v4 r)) == 0) && (rvCheckM (rtakeM_v3 r) != 0)) then (rrFailM (rtakeM_v4 r) 4) else (rtakeM_v4 r))
def rtakeM (r : RRd) : (Val × RRd) :=
 (bif ((rrErrM (rtakeM_v5 r)) != 0) then ((⟨0, 0, ⟨#[]⟩⟩ : Val), (rtakeM_v5 r)) else ((rtakeM_v3 r), (rtakeM_v5 r)))
abbrev rtakeM_c1 : Nat × AObj := (1, .box 53 [vi 0, vi 0, vs (⟨#[]⟩)])
abbrev rtakeM_c2 (r : RRd) : Nat × AObj := (2, .box 53 (avs (Val.cells (rtakeM_v3 r))))
abbrev rtakeM_c3 (r : RRd) : Nat × AObj := (0, .box 102 (avs (RRd.cells (rtakeM_v5 r))))
abbrev rtakeM_c4 (r : RRd) : Nat × AObj := (0, .box 102 (avs (RRd.cells (rtakeM_v4 r))))
abbrev rtakeM_c5 (r : RRd) : Nat × AObj := (0, .box 102 (avs (RRd.cells (rtakeM_v2 r))))
abbrev rtakeM_c6 (r : RRd) : Nat × AObj := (2, .box 53 (avs (Val.cells (rtakeM_v1 r))))
theorem rtakeM_v2_keep {r : RRd} (h : RdOk r) : RdOk (rtakeM_v2 r) := by
 unfold rtakeM_v2
 cases ((rrIntM r).1 == 4) with
 | true => exact rrTextM_keep (rrIntM_keep h)
 | false => exact rrIntM_keep h
theorem rrFailM_keep {r : RRd} {e : Int} (h : RdOk r) : RdOk (rrFailM r e) := by
 unfold rrFailM
 simp only [cond_eq_ite]
 split <;> exact h
theorem rtakeM_ok (r : RRd) (ho : RdOk r) :
 ACalls Try.prog G_ 61 [.ptr 0 0] (number 0 [.box 102 (avs (RRd.cells r))]) 1 (fun r_ τ_ => r_ = .agg (avs (Val.cells ((rtakeM r).1))) ∧ τ_ = number 0 [.box 102 (avs (RRd.cells ((rtakeM r).2)))]) := by
 refine ACalls.bodyH Try.func61 rfl 2039 [(0, .ptr 0 0)] ?_
 refine AWp.hz [.run 1] 2039 [(0, .ptr 0 0), (2, .ptr 1 0)] [rtakeM_c1, (0, .box 102 (avs (RRd.cells r)))] 2 ?_
 refine AWp.rg ?_
 refine AOps.hz [.run 1] 2039 [(0, .ptr 0 0), (2, .ptr 1 0), (4, .ptr 0 0)] [rtakeM_c1, (0, .box 102 (avs (RRd.cells r)))] 2 ?_
 refine AOps.callX 57 [] [] [0] [.box 102 (avs (RRd.cells r))] [.box 102 (avs (RRd.cells ((rrIntM r).2)))] (.func 57) [(.tmp 4)] [.ptr 0 0] (vi ((rrIntM r).1)) (rrIntM_ok r (by first | assumption | omega | (repeat (first | with_reducible assumption | with_reducible apply rrIntM_keep | with_reducible apply rrTextM_keep | with_reducible apply rrCountM_keep | with_reducible apply rtakeM_v2_keep | with_reducible apply rtakeM_keep)))) ?_
 refine AOps.he [.run 3] 2039 [(0, .ptr 0 0), (2, .ptr 1 0), (3, .ptr 2 0)] [(2, .box 53 [vi ((rrIntM r).1), vi 0, vs (⟨#[]⟩)]), rtakeM_c1, (0, .box 102 (avs (RRd.cells ((rrIntM r).2))))] 3 ?_
 refine AWp.join (Z 2039 [(0, .ptr 0 0), (2, .ptr 1 0), (3, .ptr 2 0)] [(2, .box 53 (avs (Val.cells (rtakeM_v1 r)))), (1, .box 53 [vi 0, vi 0, vs (⟨#[]⟩)]), (0, .box 102 (avs (RRd.cells (rtakeM_v2 r))))] 3) ?_ ?_
 ·
  refine AWp.hz [.run 3] 2039 [(0, .ptr 0 0), (2, .ptr 1 0), (3, .ptr 2 0), (9, vb ((rrIntM r).1 == 4))] [(2, .box 53 [vi ((rrIntM r).1), vi 0, vs (⟨#[]⟩)]), rtakeM_c1, (0, .box 102 (avs (RRd.cells ((rrIntM r).2))))] 3 ?_
  refine AWp.cnd (((rrIntM r).1 == 4)) (fun h1 => ?_) (fun h1 => ?_)
  ·
   refine AWp.region ?_
   refine AOps.hz [.run 1] 2039 [(0, .ptr 0 0), (2, .ptr 1 0), (3, .ptr 2 0), (10, .ptr 0 0)] [(2, .box 53 [vi ((rrIntM r).1), vi 0, vs (⟨#[]⟩)]), rtakeM_c1, (0, .box 102 (avs (RRd.cells ((rrIntM r).2))))] 3 ?_
   refine AOps.callX 60 [] [] [0] [.box 102 (avs (RRd.cells ((rrIntM r).2)))] [.box 102 (avs (RRd.cells ((rrTextM ((rrIntM r).2) 60).2)))] (.func 60) [(.tmp 10), (.const (.int .i64 60))] [.ptr 0 0, vi 60] (vs ((rrTextM ((rrIntM r).2) 60).1)) (rrTextM_ok ((rrIntM r).2) 60 (by first | assumption | omega | (repeat (first | with_reducible assumption | with_reducible apply rrIntM_keep | with_reducible apply rrTextM_keep | with_reducible apply rrCountM_keep | with_reducible apply rtakeM_v2_keep | with_reducible apply rtakeM_keep)))) ?_
   refine AOps.he [.run 2] 2039 [(0, .ptr 0 0), (2, .ptr 1 0), (3, .ptr 2 0)] [(2, .box 53 [vi ((rrIntM r).1), vi 0, vs ((rrTextM ((rrIntM r).2) 60).1)]), rtakeM_c1, (0, .box 102 (avs (RRd.cells ((rrTextM ((rrIntM r).2) 60).2))))] 3 ?_
   exact leZ (by rw [rtakeM_v1, rtakeM_v2, h1]; try kernel_rfl)
  ·
   refine AWp.skip ?_
   exact leZ (by rw [rtakeM_v1, rtakeM_v2, h1]; try kernel_rfl)
 ·
  refine AWp.join (Z 2039 [(0, .ptr 0 0), (2, .ptr 1 0), (3, .ptr 2 0)] [(2, .box 53 (avs (Val.cells (rtakeM_v3 r)))), (1, .box 53 [vi 0, vi 0, vs (⟨#[]⟩)]), (0, .box 102 (avs (RRd.cells (rtakeM_v4 r))))] 3) ?_ ?_
  ·
   refine AWp.join (Z 2039 [(0, .ptr 0 0), (2, .ptr 1 0), (3, .ptr 2 0), (20, vb (decide ((rtakeM_v1 r).kind ≥ 1) && decide ((rtakeM_v1 r).kind ≤ 3)))] [(2, .box 53 (avs (Val.cells (rtakeM_v1 r)))), (1, .box 53 [vi 0, vi 0, vs (⟨#[]⟩)]), (0, .box 102 (avs (RRd.cells (rtakeM_v2 r))))] 3) ?_ ?_
   ·
    refine AWp.region ?_
    refine AOps.hg [.run 4] (decide ((rtakeM_v1 r).kind ≥ 1)) 2039 (fun b_ => [(0, .ptr 0 0), (2, .ptr 1 0), (3, .ptr 2 0), (16, vb b_)]) [(rtakeM_c6 r), rtakeM_c1, (rtakeM_c5 r)] 3 (fun hg2 => ?_) (fun hg2 => ?_)
    ·
     have hg2' := of_decide_eq_true hg2
     refine AOps.he [.run 4] 2039 [(0, .ptr 0 0), (2, .ptr 1 0), (3, .ptr 2 0), (20, vb (decide ((rtakeM_v1 r).kind ≤ 3)))] [(rtakeM_c6 r), rtakeM_c1, (rtakeM_c5 r)] 3 ?_
     exact leZ (by rw [hg2]; try kernel_rfl)
    ·
     have hg2' := of_decide_eq_false hg2
     refine AOps.he [.run 4] 2039 [(0, .ptr 0 0), (2, .ptr 1 0), (3, .ptr 2 0), (20, vb false)] [(rtakeM_c6 r), rtakeM_c1, (rtakeM_c5 r)] 3 ?_
     exact leZ (by rw [hg2]; try kernel_rfl)
   ·
    refine AWp.cnd ((decide ((rtakeM_v1 r).kind ≥ 1) && decide ((rtakeM_v1 r).kind ≤ 3))) (fun h3 => ?_) (fun h3 => ?_)
    ·
     have h3l := and_tl h3
     have h3l' := of_decide_eq_true h3l
     have h3r := and_tr h3
     have h3r' := of_decide_eq_true h3r
     refine AWp.region ?_
     refine AOps.hz [.run 1] 2039 [(0, .ptr 0 0), (2, .ptr 1 0), (3, .ptr 2 0), (21, .ptr 0 0)] [(rtakeM_c6 r), rtakeM_c1, (rtakeM_c5 r)] 3 ?_
     refine AOps.callX 57 [] [] [0] [.box 102 (avs (RRd.cells (rtakeM_v2 r)))] [.box 102 (avs (RRd.cells ((rrIntM (rtakeM_v2 r)).2)))] (.func 57) [(.tmp 21)] [.ptr 0 0] (vi ((rrIntM (rtakeM_v2 r)).1)) (rrIntM_ok (rtakeM_v2 r) (by first | assumption | omega | (repeat (first | with_reducible assumption | with_reducible apply rrIntM_keep | with_reducible apply rrTextM_keep | with_reducible apply rrCountM_keep | with_reducible apply rtakeM_v2_keep | with_reducible apply rtakeM_keep)))) ?_
     refine AOps.he [.run 2] 2039 [(0, .ptr 0 0), (2, .ptr 1 0), (3, .ptr 2 0)] [(2, .box 53 [vi ((rtakeM_v1 r).kind), vi ((rrIntM (rtakeM_v2 r)).1), vs ((rtakeM_v1 r).s)]), rtakeM_c1, (0, .box 102 (avs (RRd.cells ((rrIntM (rtakeM_v2 r)).2))))] 3 ?_
     exact leZ (by rw [rtakeM_v3, rtakeM_v4, h3]; try kernel_rfl)
    ·
     refine AWp.skip ?_
     exact leZ (by rw [rtakeM_v3, rtakeM_v4, h3]; try kernel_rfl)
  ·
   refine AWp.join (Z 2039 [(0, .ptr 0 0), (2, .ptr 1 0), (3, .ptr 2 0)] [(2, .box 53 (avs (Val.cells (rtakeM_v3 r)))), (1, .box 53 [vi 0, vi 0, vs (⟨#[]⟩)]), (0, .box 102 (avs (RRd.cells (rtakeM_v5 r))))] 3) ?_ ?_
   ·
    refine AWp.join (Z 2039 [(0, .ptr 0 0), (2, .ptr 1 0), (3, .ptr 2 0), (31, vb (((rrErrM (rtakeM_v4 r)) == 0) && (rvCheckM (rtakeM_v3 r) != 0)))] [(2, .box 53 (avs (Val.cells (rtakeM_v3 r)))), (1, .box 53 [vi 0, vi 0, vs (⟨#[]⟩)]), (0, .box 102 (avs (RRd.cells (rtakeM_v4 r))))] 3) ?_ ?_
    ·
     refine AWp.region ?_
     refine AOps.hz [.run 1] 2039 [(0, .ptr 0 0), (2, .ptr 1 0), (3, .ptr 2 0), (24, .ptr 0 0)] [(rtakeM_c2 r), rtakeM_c1, (rtakeM_c4 r)] 3 ?_
     refine AOps.callX 58 [] [] [0] [.box 102 (avs (RRd.cells (rtakeM_v4 r)))] [.box 102 (avs (RRd.cells (rtakeM_v4 r)))] (.func 58) [(.tmp 24)] [.ptr 0 0] (vi (rrErrM (rtakeM_v4 r))) (rrErrM_ok (rtakeM_v4 r)) ?_
     refine AOps.hg [.run 2] (((rrErrM (rtakeM_v4 r)) == 0)) 2039 (fun b_ => [(0, .ptr 0 0), (2, .ptr 1 0), (3, .ptr 2 0), (27, vb b_)]) [(rtakeM_c2 r), rtakeM_c1, (rtakeM_c4 r)] 3 (fun hg4 => ?_) (fun hg4 => ?_)
     ·
      refine AOps.he [.run 1, .call 73 [.agg (avs (Val.cells (rtakeM_v3 r)))] (vi (rvCheckM (rtakeM_v3 r))) [] 0 (rvCheckM_ok (rtakeM_v3 r)), .run 2] 2039 [(0, .ptr 0 0), (2, .ptr 1 0), (3, .ptr 2 0), (31, vb (rvCheckM (rtakeM_v3 r) != 0))] [(rtakeM_c2 r), rtakeM_c1, (rtakeM_c4 r)] 3 ?_
      exact leZ (by rw [hg4]; try kernel_rfl)
     ·
      refine AOps.he [.run 4] 2039 [(0, .ptr 0 0), (2, .ptr 1 0), (3, .ptr 2 0), (31, vb false)] [(rtakeM_c2 r), rtakeM_c1, (rtakeM_c4 r)] 3 ?_
      exact leZ (by rw [hg4]; try kernel_rfl)
    ·
     refine AWp.cnd ((((rrErrM (rtakeM_v4 r)) == 0) && (rvCheckM (rtakeM_v3 r) != 0))) (fun h5 => ?_) (fun h5 => ?_)
     ·
      have h5l := and_tl h5
      have h5r := and_tr h5
      refine AWp.region ?_
      refine AOps.hz [.run 1] 2039 [(0, .ptr 0 0), (2, .ptr 1 0), (3, .ptr 2 0), (32, .ptr 0 0)] [(rtakeM_c2 r), rtakeM_c1, (rtakeM_c4 r)] 3 ?_
      refine AOps.callX 78 [] [] [0] [.box 102 (avs (RRd.cells (rtakeM_v4 r)))] [.box 102 (avs (RRd.cells (rrFailM (rtakeM_v4 r) 4)))] (.func 78) [(.tmp 32), (.const (.int .i64 4))] [.ptr 0 0, vi 4] (.tuple []) (rrFailM_ok (rtakeM_v4 r) 4) ?_
      refine AOps.he [] 2039 [(0, .ptr 0 0), (2, .ptr 1 0), (3, .ptr 2 0)] [(rtakeM_c2 r), rtakeM_c1, (0, .box 102 (avs (RRd.cells (rrFailM (rtakeM_v4 r) 4))))] 3 ?_
      exact leZ (by rw [rtakeM_v5, h5]; try kernel_rfl)
     ·
      refine AWp.skip ?_
      exact leZ (by rw [rtakeM_v5, h5]; try kernel_rfl)
   ·
    refine AWp.seq ?_
    refine AWp.rg ?_
    refine AOps.hz [.run 1] 2039 [(2, .ptr 1 0), (3, .ptr 2 0), (34, .ptr 0 0)] [(rtakeM_c2 r), rtakeM_c1, (rtakeM_c3 r)] 3 ?_
    refine AOps.callX 58 [] [] [0] [.box 102 (avs (RRd.cells (rtakeM_v5 r)))] [.box 102 (avs (RRd.cells (rtakeM_v5 r)))] (.func 58) [(.tmp 34)] [.ptr 0 0] (vi (rrErrM (rtakeM_v5 r))) (rrErrM_ok (rtakeM_v5 r)) ?_
    refine AOps.he [.run 1] 2039 [(2, .ptr 1 0), (3, .ptr 2 0), (36, vb ((rrErrM (rtakeM_v5 r)) != 0))] [(rtakeM_c2 r), rtakeM_c1, (rtakeM_c3 r)] 3 ?_
    refine AWp.cnd (((rrErrM (rtakeM_v5 r)) != 0)) (fun h6 => ?_) (fun h6 => ?_)
    ·
     refine AWp.hz [.run 2] 2039 [(2, .ptr 1 0)] [rtakeM_c1, (rtakeM_c3 r)] 3 ?_
     refine AWp.ret ?_
     exact leafH (.inr rfl) (r := .agg [vi 0, vi 0, vs (⟨#[]⟩)]) (τ := [(rtakeM_c3 r)]) (by show (.agg [vi 0, vi 0, vs (⟨#[]⟩)] : AV) = .agg (avs (Val.cells ((rtakeM r).1))); unfold rtakeM; (try rw [h6]); try kernel_rfl) (by show ([(rtakeM_c3 r)] : Heap) = number 0 [.box 102 (avs (RRd.cells ((rtakeM r).2)))]; unfold rtakeM; (try rw [h6]); try kernel_rfl)
    ·
     refine AWp.skip ?_
     refine AWp.hz [.run 2] 2039 [(2, .ptr 1 0)] [(1, .box 53 (avs (Val.cells (rtakeM_v3 r)))), (rtakeM_c3 r)] 3 ?_
     refine AWp.ret ?_
     exact leafH (.inr rfl) (r := .agg (avs (Val.cells (rtakeM_v3 r)))) (τ := [(rtakeM_c3 r)]) (by show (.agg (avs (Val.cells (rtakeM_v3 r))) : AV) = .agg (avs (Val.cells ((rtakeM r).1))); unfold rtakeM; (try rw [h6]); try kernel_rfl) (by show ([(rtakeM_c3 r)] : Heap) = number 0 [.box 102 (avs (RRd.cells ((rtakeM r).2)))]; unfold rtakeM; (try rw [h6]); try kernel_rfl)
theorem rtakeM_keep {r : RRd} (h : RdOk r) : RdOk (rtakeM r).2 := by
 have h2 := rtakeM_v2_keep h
 have h4 : RdOk (rtakeM_v4 r) := by
  unfold rtakeM_v4
  simp only [cond_eq_ite]
  split
  ·exact rrIntM_keep h2
  ·exact h2
 have h5 : RdOk (rtakeM_v5 r) := by
  unfold rtakeM_v5
  simp only [cond_eq_ite]
  split
  ·exact rrFailM_keep h4
  ·exact h4
 unfold rtakeM
 simp only [cond_eq_ite]
 split <;> exact h5
end Go.Proofs.Ytnnlaccdendkpaa
