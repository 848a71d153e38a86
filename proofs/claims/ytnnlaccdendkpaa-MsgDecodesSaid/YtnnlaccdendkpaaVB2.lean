/- Readers. -/
import Derived.Test.YtnnlaccdendkpaaVB1
namespace Go.Proofs.Ytnnlaccdendkpaa
open Go Go.Av Go.Hh Go.Proofs
set_option maxRecDepth 100000
set_option maxHeartbeats 4000000
theorem var_next {k : Nat} {c : Int} (hk : k ≤ 9) (h : ((k : Int) == 9 && decide (c > 1)) = false) (h8 : ¬ c < 128) : k + 1 ≤ 9 := by
 by_cases h9 : k = 9
 ·subst h9
  have : c > 1 := by omega
  simp [this] at h
 ·omega
def varintM_B1 (s : ByteArray) (k1_ : Nat) (x_ : Int) : Step (Int × Int × Int) (Int) :=
 match x_ with
 | (a1_0) => (match (s.data.toList)[k1_]? with | some e1_ => (bif ((decide ((k1_ : Int) > 0) && ((e1_.toNat : Int) == 0)) || (((k1_ : Int) == 9) && decide ((e1_.toNat : Int) > 1))) then .ret (0, 0, 4) else (bif decide ((e1_.toNat : Int) < 128) then .ret (orI .u64 a1_0 (IntKind.u64.wrap ((IntKind.u64.wrap (andI .u8 (e1_.toNat : Int) 127)) * 2 ^ (min (IntKind.i64.wrap (7 * (k1_ : Int))).toNat 64))), ((k1_ + 1 : Nat) : Int), 0) else .nxt (orI .u64 a1_0 (IntKind.u64.wrap ((IntKind.u64.wrap (andI .u8 (e1_.toNat : Int) 127)) * 2 ^ (min (IntKind.i64.wrap (7 * (k1_ : Int))).toNat 64)))))) | none => .nxt x_)
def varintM_L1 (s : ByteArray) (x_ : Int) : (Int × Int × Int) ⊕ (Int) := loopS (varintM_B1 s) 0 s.size x_
def varintM (s : ByteArray) : Int × Int × Int :=
 (match (varintM_L1 s (0)) with | .inl r_ => r_ | .inr (a1_0) => (0, 0, 5))
abbrev varintM_c1 (e1_ : UInt8) : Nat × AV := (7, .rv (.v (.int .u8 (e1_.toNat : Int))))
abbrev varintM_c2 (s : ByteArray) : Nat × AV := (9, vi (s.size : Int))
abbrev varintM_c3 (a1_0 : Int) (e1_ : UInt8) (k1_ : Nat) : Nat × AV := (5, .rv (.v (.int .u64 (orI .u64 a1_0 (IntKind.u64.wrap ((IntKind.u64.wrap (andI .u8 (e1_.toNat : Int) 127)) * 2 ^ (min (IntKind.i64.wrap (7 * (k1_ : Int))).toNat 64)))))))
abbrev varintM_c4 (k1_ : Nat) : Nat × AV := (10, vi (k1_ : Int))
abbrev varintM_c5 (a1_0 : Int) : Nat × AV := (5, .rv (.v (.int .u64 a1_0)))
theorem varintM_ok (s : ByteArray) :
 ACalls Try.prog G_ 75 [vs s] [] 0 (fun r τ => r = .tuple [.rv (.v (.int .u64 ((varintM s).1))), vi (((varintM s).2).1), vi (((varintM s).2).2)] ∧ τ = []) := by
 refine ACalls.body Try.func75 rfl 44 [(0, vs s)] ?_
 refine AWp.hz [.run 3] 44 [(0, vs s)] [] 0 ?_
 refine AWp.hz [.run 1] 44 [(0, vs s), (5, .rv (.v (.int .u64 0)))] [] 0 ?_
 refine AWp.seq ?_
 refine AWp.hz [.run 3] 44 [(0, vs s), (5, .rv (.v (.int .u64 0))), (varintM_c2 s), (10, vi 0)] [] 0 ?_
 refine AWp.joinE1 (A := Int) (fun x_ => Z 44 [] [] 0) (fun x_ => (varintM_L1 s (0)) = .inr x_) ?_ ?_
 ·
  refine AWp.block ?_
  refine AWp.loop (ι := Nat × (Int)) (fun x_ => Z 44 [(0, vs s), (5, .rv (.v (.int .u64 x_.2))), (varintM_c2 s), (10, vi (x_.1 : Int))] [] 0) (fun x_ => x_.1 ≤ s.size ∧ (varintM_L1 s (0)) = loopS (varintM_B1 s) x_.1 (s.size - x_.1) x_.2 ∧ x_.1 ≤ 9) (fun x_ => s.size - x_.1) (0, (0)) leZ ⟨Nat.zero_le _, rfl, Nat.zero_le _⟩ ?_
  rintro ⟨k1_, a1_0⟩ ⟨hk1_, hs1_, hv1_⟩
  try dsimp only at hk1_
  try dsimp only at hs1_
  try dsimp only at hv1_
  refine AWp.cv 44 [(0, vs s), (varintM_c5 a1_0), (varintM_c2 s), (varintM_c4 k1_)] [] 0 ?_
  refine AWp.hz [.run 1] 44 [(0, vs s), (varintM_c5 a1_0), (varintM_c2 s), (varintM_c4 k1_), (11, vb (decide ((k1_ : Int) < (s.size : Int))))] [] 0 ?_
  refine AWp.seq ?_
  refine AWp.cnd (decide ((k1_ : Int) < (s.size : Int))) (fun h1 => ?_) (fun h1 => ?_)
  ·
   have h1' := of_decide_eq_true h1
   refine AWp.skip ?_
   refine AWp.seq ?_
   refine AWp.block ?_
   refine AWp.hz [.run 2] 44 [(0, vs s), (varintM_c5 a1_0), (6, vi (k1_ : Int)), (varintM_c2 s), (varintM_c4 k1_)] [] 0 ?_
   obtain ⟨e1_, he1_⟩ : ∃ e_, (s.data.toList)[k1_]? = some e_ := byteAt (by omega)
   refine AWp.hz [.run 2, .idxS s k1_ e1_ he1_, .run 1] 44 [(0, vs s), (varintM_c5 a1_0), (6, vi (k1_ : Int)), (varintM_c1 e1_), (varintM_c2 s), (varintM_c4 k1_)] [] 0 ?_
   refine AWp.seq ?_
   refine AWp.join (Z 44 [(0, vs s), (5, .rv (.v (.int .u64 a1_0))), (6, vi (k1_ : Int)), (7, .rv (.v (.int .u8 (e1_.toNat : Int)))), (9, vi (s.size : Int)), (10, vi (k1_ : Int)), (29, vb ((decide ((k1_ : Int) > 0) && ((e1_.toNat : Int) == 0)) || (((k1_ : Int) == 9) && decide ((e1_.toNat : Int) > 1))))] [] 0) ?_ ?_
   ·
    refine AWp.region ?_
    refine AOps.hg [.run 3] (decide ((k1_ : Int) > 0)) 44 (fun b_ => [(0, vs s), (varintM_c5 a1_0), (6, vi (k1_ : Int)), (varintM_c1 e1_), (varintM_c2 s), (varintM_c4 k1_), (18, vb b_)]) [] 0 (fun hg2 => ?_) (fun hg2 => ?_)
    ·
     have hg2' := of_decide_eq_true hg2
     refine AOps.hg [.run 4] (((e1_.toNat : Int) == 0)) 44 (fun b_ => [(0, vs s), (varintM_c5 a1_0), (6, vi (k1_ : Int)), (varintM_c1 e1_), (varintM_c2 s), (varintM_c4 k1_), (22, vb b_)]) [] 0 (fun hg3 => ?_) (fun hg3 => ?_)
     ·
      have hg3' := beq_t hg3
      refine AOps.he [.run 7] 44 [(0, vs s), (varintM_c5 a1_0), (6, vi (k1_ : Int)), (varintM_c1 e1_), (varintM_c2 s), (varintM_c4 k1_), (29, vb true)] [] 0 ?_
      exact leZ (by rw [hg2, hg3]; try kernel_rfl)
     ·
      have hg3' := beq_f hg3
      refine AOps.hg [.run 3] (((k1_ : Int) == 9)) 44 (fun b_ => [(0, vs s), (varintM_c5 a1_0), (6, vi (k1_ : Int)), (varintM_c1 e1_), (varintM_c2 s), (varintM_c4 k1_), (22, vb false), (25, vb b_)]) [] 0 (fun hg4 => ?_) (fun hg4 => ?_)
      ·
       have hg4' := beq_t hg4
       refine AOps.he [.run 4] 44 [(0, vs s), (varintM_c5 a1_0), (6, vi (k1_ : Int)), (varintM_c1 e1_), (varintM_c2 s), (varintM_c4 k1_), (29, vb (decide ((e1_.toNat : Int) > 1)))] [] 0 ?_
       exact leZ (by rw [hg2, hg3, hg4]; try kernel_rfl)
      ·
       have hg4' := beq_f hg4
       refine AOps.he [.run 4] 44 [(0, vs s), (varintM_c5 a1_0), (6, vi (k1_ : Int)), (varintM_c1 e1_), (varintM_c2 s), (varintM_c4 k1_), (29, vb false)] [] 0 ?_
       exact leZ (by rw [hg2, hg3, hg4]; try kernel_rfl)
    ·
     have hg2' := of_decide_eq_false hg2
     refine AOps.hg [.run 7] (((k1_ : Int) == 9)) 44 (fun b_ => [(0, vs s), (varintM_c5 a1_0), (6, vi (k1_ : Int)), (varintM_c1 e1_), (varintM_c2 s), (varintM_c4 k1_), (22, vb false), (25, vb b_)]) [] 0 (fun hg5 => ?_) (fun hg5 => ?_)
     ·
      have hg5' := beq_t hg5
      refine AOps.he [.run 4] 44 [(0, vs s), (varintM_c5 a1_0), (6, vi (k1_ : Int)), (varintM_c1 e1_), (varintM_c2 s), (varintM_c4 k1_), (29, vb (decide ((e1_.toNat : Int) > 1)))] [] 0 ?_
      exact leZ (by rw [hg2, hg5]; try kernel_rfl)
     ·
      have hg5' := beq_f hg5
      refine AOps.he [.run 4] 44 [(0, vs s), (varintM_c5 a1_0), (6, vi (k1_ : Int)), (varintM_c1 e1_), (varintM_c2 s), (varintM_c4 k1_), (29, vb false)] [] 0 ?_
      exact leZ (by rw [hg2, hg5]; try kernel_rfl)
   ·
    refine AWp.cnd (((decide ((k1_ : Int) > 0) && ((e1_.toNat : Int) == 0)) || (((k1_ : Int) == 9) && decide ((e1_.toNat : Int) > 1)))) (fun h6 => ?_) (fun h6 => ?_)
    ·
     refine AWp.hz [.run 3] 44 [(2, .rv (.v (.int .u64 0))), (3, vi 0), (4, vi 4)] [] 0 ?_
     refine AWp.ret ?_
     have hL1_ : (varintM_L1 s (0)) = .inl (0, 0, 4) := loopS_ret hs1_ (by omega) (by unfold varintM_B1; (try dsimp only); (try simp only [he1_]); (try rw [h1]); (try rw [h6]); try kernel_rfl)
     exact leafR (r := .tuple [.rv (.v (.int .u64 0)), vi 0, vi 4]) (by show (.tuple [.rv (.v (.int .u64 0)), vi 0, vi 4] : AV) = .tuple [.rv (.v (.int .u64 ((varintM s).1))), vi (((varintM s).2).1), vi (((varintM s).2).2)]; unfold varintM; (try rw [hL1_]); (try dsimp only); try kernel_rfl)
    ·
     have h6l := or_fl h6
     have h6r := or_fr h6
     refine AWp.skip ?_
     refine AWp.rg ?_
     refine AOps.hz [.run 2] 44 [(0, vs s), (6, vi (k1_ : Int)), (varintM_c1 e1_), (varintM_c2 s), (varintM_c4 k1_), (30, .rv (.v (.int .u64 a1_0))), (31, .rv (.v (.int .u8 (e1_.toNat : Int))))] [] 0 ?_
     refine AOps.andI .u8 (e1_.toNat : Int) 127 (.tmp 31) (.const (.int .u8 127)) ?_
     refine AOps.hz [.run 3] 44 [(0, vs s), (6, vi (k1_ : Int)), (varintM_c1 e1_), (varintM_c2 s), (varintM_c4 k1_), (30, .rv (.v (.int .u64 a1_0))), (33, .rv (.v (.int .u64 (IntKind.u64.wrap (andI .u8 (e1_.toNat : Int) 127))))), (35, vi (IntKind.i64.wrap (7 * (k1_ : Int))))] [] 0 ?_
     have := wrap64_of (7 * (k1_ : Int)) (by omega) (by omega)
     have hd7 : 0 ≤ (IntKind.i64.wrap (7 * (k1_ : Int))) := by omega
     refine AOps.shlV .u64 .i64 (IntKind.u64.wrap (andI .u8 (e1_.toNat : Int) 127)) (IntKind.i64.wrap (7 * (k1_ : Int))) (.tmp 33) (.tmp 35) hd7 ?_
     refine AOps.orI .u64 a1_0 (IntKind.u64.wrap ((IntKind.u64.wrap (andI .u8 (e1_.toNat : Int) 127)) * 2 ^ (min (IntKind.i64.wrap (7 * (k1_ : Int))).toNat 64))) (.tmp 30) (.tmp 36) ?_
     refine AOps.he [.run 1] 44 [(0, vs s), (varintM_c3 a1_0 e1_ k1_), (6, vi (k1_ : Int)), (varintM_c1 e1_), (varintM_c2 s), (varintM_c4 k1_)] [] 0 ?_
     refine AWp.hz [.run 2] 44 [(0, vs s), (varintM_c3 a1_0 e1_ k1_), (6, vi (k1_ : Int)), (varintM_c2 s), (varintM_c4 k1_), (39, vb (decide ((e1_.toNat : Int) < 128)))] [] 0 ?_
     refine AWp.cnd (decide ((e1_.toNat : Int) < 128)) (fun h8 => ?_) (fun h8 => ?_)
     ·
      have h8' := of_decide_eq_true h8
      refine AWp.hz [.run 2, .cast (vi (IntKind.i64.wrap ((k1_ : Int) + 1))) (vi ((k1_ + 1 : Nat) : Int)) (congrArg vi (wrap_nat (by omega))), .run 3] 44 [(2, .rv (.v (.int .u64 (orI .u64 a1_0 (IntKind.u64.wrap ((IntKind.u64.wrap (andI .u8 (e1_.toNat : Int) 127)) * 2 ^ (min (IntKind.i64.wrap (7 * (k1_ : Int))).toNat 64))))))), (3, vi ((k1_ + 1 : Nat) : Int)), (4, vi 0)] [] 0 ?_
      refine AWp.ret ?_
      have hL1_ : (varintM_L1 s (0)) = .inl (orI .u64 a1_0 (IntKind.u64.wrap ((IntKind.u64.wrap (andI .u8 (e1_.toNat : Int) 127)) * 2 ^ (min (IntKind.i64.wrap (7 * (k1_ : Int))).toNat 64))), ((k1_ + 1 : Nat) : Int), 0) := loopS_ret hs1_ (by omega) (by unfold varintM_B1; (try dsimp only); (try simp only [he1_]); (try rw [h1]); (try rw [h6]); (try rw [h8]); try kernel_rfl)
      exact leafR (r := .tuple [.rv (.v (.int .u64 (orI .u64 a1_0 (IntKind.u64.wrap ((IntKind.u64.wrap (andI .u8 (e1_.toNat : Int) 127)) * 2 ^ (min (IntKind.i64.wrap (7 * (k1_ : Int))).toNat 64)))))), vi ((k1_ + 1 : Nat) : Int), vi 0]) (by show (.tuple [.rv (.v (.int .u64 (orI .u64 a1_0 (IntKind.u64.wrap ((IntKind.u64.wrap (andI .u8 (e1_.toNat : Int) 127)) * 2 ^ (min (IntKind.i64.wrap (7 * (k1_ : Int))).toNat 64)))))), vi ((k1_ + 1 : Nat) : Int), vi 0] : AV) = .tuple [.rv (.v (.int .u64 ((varintM s).1))), vi (((varintM s).2).1), vi (((varintM s).2).2)]; unfold varintM; (try rw [hL1_]); (try dsimp only); try kernel_rfl)
     ·
      have h8' := of_decide_eq_false h8
      refine AWp.skip ?_
      refine AWp.he [.cast (vi (IntKind.i64.wrap ((k1_ : Int) + 1))) (vi ((k1_ + 1 : Nat) : Int)) (congrArg vi (wrap_nat (by omega))), .run 1] 44 [(0, vs s), (varintM_c3 a1_0 e1_ k1_), (varintM_c2 s), (10, vi ((k1_ + 1 : Nat) : Int))] [] 0 ?_
      exact ⟨(k1_ + 1, (orI .u64 a1_0 (IntKind.u64.wrap ((IntKind.u64.wrap (andI .u8 (e1_.toNat : Int) 127)) * 2 ^ (min (IntKind.i64.wrap (7 * (k1_ : Int))).toNat 64))))), ⟨by show k1_ + 1 ≤ _; omega, loopS_next hs1_ (by omega) (by unfold varintM_B1; (try dsimp only); (try simp only [he1_]); (try rw [h1]); (try rw [h6]); (try rw [h8]); try kernel_rfl), by exact var_next (by assumption) (by assumption) (by assumption)⟩, by show _ - (k1_ + 1) < _ - k1_; omega, leG⟩
  ·
   have h1' := of_decide_eq_false h1
   refine AWp.exit ?_
   have hq1_ : (varintM_L1 s (0)) = .inr (a1_0) := loopS_end hs1_ (by omega)
   exact ⟨(a1_0), hq1_, leG⟩
 ·
  rintro a1_0 hL1_
  refine AWp.hz [.run 3] 44 [(2, .rv (.v (.int .u64 0))), (3, vi 0), (4, vi 5)] [] 0 ?_
  refine AWp.ret ?_
  exact leafR (r := .tuple [.rv (.v (.int .u64 0)), vi 0, vi 5]) (by show (.tuple [.rv (.v (.int .u64 0)), vi 0, vi 5] : AV) = .tuple [.rv (.v (.int .u64 ((varintM s).1))), vi (((varintM s).2).1), vi (((varintM s).2).2)]; unfold varintM; (try rw [hL1_]); (try dsimp only); try kernel_rfl)
def rdErrM (r : Rd) : (Int) :=
 (bif !r.made then 15 else r.err)
theorem rdErrM_ok (r : Rd) :
 ACalls Try.prog G_ 47 [.ptr 0 0] (number 0 [.box 97 (avs (Rd.cells r))]) 1 (fun r_ τ_ => r_ = vi (rdErrM r) ∧ τ_ = number 0 [.box 97 (avs (Rd.cells r))]) := by
 refine ACalls.bodyH Try.func47 rfl 2016 [(0, .ptr 0 0)] ?_
 refine AWp.hz [.run 1] 2016 [(0, .ptr 0 0)] [(0, .box 97 (avs (Rd.cells r)))] 1 ?_
 refine AWp.seq ?_
 refine AWp.rg ?_
 refine AOps.hz [.run 1] 2016 [(0, .ptr 0 0), (3, .ptr 0 0)] [(0, .box 97 (avs (Rd.cells r)))] 1 ?_
 refine AOps.ptrNil (.tmp 3) true ?_
 refine AOps.he [.run 7] 2016 [(0, .ptr 0 0), (11, vb (!r.made))] [(0, .box 97 (avs (Rd.cells r)))] 1 ?_
 refine AWp.cnd (!r.made) (fun h1 => ?_) (fun h1 => ?_)
 ·
  refine AWp.hz [.run 1] 2016 [(2, vi 15)] [(0, .box 97 (avs (Rd.cells r)))] 1 ?_
  refine AWp.ret ?_
  exact leafH (.inr rfl) (r := vi 15) (τ := [(0, .box 97 (avs (Rd.cells r)))]) (by show (vi 15 : AV) = vi (rdErrM r); unfold rdErrM; (try rw [h1]); try kernel_rfl) (rfl)
 ·
  refine AWp.skip ?_
  refine AWp.hz [.run 5] 2016 [(2, vi r.err)] [(0, .box 97 (avs (Rd.cells r)))] 1 ?_
  refine AWp.ret ?_
  exact leafH (.inr rfl) (r := vi r.err) (τ := [(0, .box 97 (avs (Rd.cells r)))]) (by show (vi r.err : AV) = vi (rdErrM r); unfold rdErrM; (try rw [h1]); try kernel_rfl) (rfl)
def rdFailM (r : Rd) (e : Int) : (Rd) :=
 (bif ((rdErrM r) == 0) then (⟨r.rest, e, r.made⟩ : Rd) else r)
theorem rdFailM_ok (r : Rd) (e : Int) :
 ACalls Try.prog G_ 76 [.ptr 0 0, vi e] (number 0 [.box 97 (avs (Rd.cells r))]) 1 (fun r_ τ_ => r_ = .tuple [] ∧ τ_ = number 0 [.box 97 (avs (Rd.cells (rdFailM r e)))]) := by
 refine ACalls.bodyH Try.func76 rfl 2011 [(0, .ptr 0 0), (1, vi e)] ?_
 refine AWp.rg ?_
 refine AOps.hz [.run 1] 2011 [(0, .ptr 0 0), (1, vi e), (4, .ptr 0 0)] [(0, .box 97 (avs (Rd.cells r)))] 1 ?_
 refine AOps.callX 47 [] [] [0] [.box 97 (avs (Rd.cells r))] [.box 97 (avs (Rd.cells r))] (.func 47) [(.tmp 4)] [.ptr 0 0] (vi (rdErrM r)) (rdErrM_ok r) ?_
 refine AOps.he [.run 1] 2011 [(0, .ptr 0 0), (1, vi e), (6, vb ((rdErrM r) == 0))] [(0, .box 97 (avs (Rd.cells r)))] 1 ?_
 refine AWp.cnd (((rdErrM r) == 0)) (fun h1 => ?_) (fun h1 => ?_)
 ·
  refine AWp.he [.run 5] 2011 [] [(0, .box 97 [vs r.rest, vi e, vb r.made])] 1 ?_
  exact leafH (.inl rfl) (r := .tuple []) (τ := [(0, .box 97 [vs r.rest, vi e, vb r.made])]) (rfl) (by show ([(0, .box 97 [vs r.rest, vi e, vb r.made])] : Heap) = number 0 [.box 97 (avs (Rd.cells (rdFailM r e)))]; unfold rdFailM; (try rw [h1]); try kernel_rfl)
 ·
  refine AWp.skip ?_
  exact leafH (.inl rfl) (r := .tuple []) (τ := [(0, .box 97 (avs (Rd.cells r)))]) (rfl) (by show ([(0, .box 97 (avs (Rd.cells r)))] : Heap) = number 0 [.box 97 (avs (Rd.cells (rdFailM r e)))]; unfold rdFailM; (try rw [h1]); try kernel_rfl)
def rdLeftM (r : Rd) : (Int) :=
 (bif ((rdErrM r) != 0) then 0 else (r.rest.size : Int))
theorem rdLeftM_ok (r : Rd) :
 ACalls Try.prog G_ 77 [.ptr 0 0] (number 0 [.box 97 (avs (Rd.cells r))]) 1 (fun r_ τ_ => r_ = vi (rdLeftM r) ∧ τ_ = number 0 [.box 97 (avs (Rd.cells r))]) := by
 refine ACalls.bodyH Try.func77 rfl 2011 [(0, .ptr 0 0)] ?_
 refine AWp.hz [.run 1] 2011 [(0, .ptr 0 0)] [(0, .box 97 (avs (Rd.cells r)))] 1 ?_
 refine AWp.seq ?_
 refine AWp.rg ?_
 refine AOps.hz [.run 1] 2011 [(0, .ptr 0 0), (3, .ptr 0 0)] [(0, .box 97 (avs (Rd.cells r)))] 1 ?_
 refine AOps.callX 47 [] [] [0] [.box 97 (avs (Rd.cells r))] [.box 97 (avs (Rd.cells r))] (.func 47) [(.tmp 3)] [.ptr 0 0] (vi (rdErrM r)) (rdErrM_ok r) ?_
 refine AOps.he [.run 1] 2011 [(0, .ptr 0 0), (5, vb ((rdErrM r) != 0))] [(0, .box 97 (avs (Rd.cells r)))] 1 ?_
 refine AWp.cnd (((rdErrM r) != 0)) (fun h1 => ?_) (fun h1 => ?_)
 ·
  refine AWp.hz [.run 1] 2011 [(2, vi 0)] [(0, .box 97 (avs (Rd.cells r)))] 1 ?_
  refine AWp.ret ?_
  exact leafH (.inr rfl) (r := vi 0) (τ := [(0, .box 97 (avs (Rd.cells r)))]) (by show (vi 0 : AV) = vi (rdLeftM r); unfold rdLeftM; (try rw [h1]); try kernel_rfl) (rfl)
 ·
  refine AWp.skip ?_
  refine AWp.hz [.run 6] 2011 [(2, vi (r.rest.size : Int))] [(0, .box 97 (avs (Rd.cells r)))] 1 ?_
  refine AWp.ret ?_
  exact leafH (.inr rfl) (r := vi (r.rest.size : Int)) (τ := [(0, .box 97 (avs (Rd.cells r)))]) (by show (vi (r.rest.size : Int) : AV) = vi (rdLeftM r); unfold rdLeftM; (try rw [h1]); try kernel_rfl) (rfl)
def rdEndM (r : Rd) : (Int) :=
 (bif decide ((rdLeftM r) > 0) then 23 else (rdErrM r))
theorem rdEndM_ok (r : Rd) :
 ACalls Try.prog G_ 55 [.ptr 0 0] (number 0 [.box 97 (avs (Rd.cells r))]) 1 (fun r_ τ_ => r_ = vi (rdEndM r) ∧ τ_ = number 0 [.box 97 (avs (Rd.cells r))]) := by
 refine ACalls.bodyH Try.func55 rfl 2008 [(0, .ptr 0 0)] ?_
 refine AWp.hz [.run 1] 2008 [(0, .ptr 0 0)] [(0, .box 97 (avs (Rd.cells r)))] 1 ?_
 refine AWp.seq ?_
 refine AWp.rg ?_
 refine AOps.hz [.run 1] 2008 [(0, .ptr 0 0), (3, .ptr 0 0)] [(0, .box 97 (avs (Rd.cells r)))] 1 ?_
 refine AOps.callX 77 [] [] [0] [.box 97 (avs (Rd.cells r))] [.box 97 (avs (Rd.cells r))] (.func 77) [(.tmp 3)] [.ptr 0 0] (vi (rdLeftM r)) (rdLeftM_ok r) ?_
 refine AOps.he [.run 1] 2008 [(0, .ptr 0 0), (5, vb (decide ((rdLeftM r) > 0)))] [(0, .box 97 (avs (Rd.cells r)))] 1 ?_
 refine AWp.cnd (decide ((rdLeftM r) > 0)) (fun h1 => ?_) (fun h1 => ?_)
 ·
  have h1' := of_decide_eq_true h1
  refine AWp.hz [.run 1] 2008 [(2, vi 23)] [(0, .box 97 (avs (Rd.cells r)))] 1 ?_
  refine AWp.ret ?_
  exact leafH (.inr rfl) (r := vi 23) (τ := [(0, .box 97 (avs (Rd.cells r)))]) (by show (vi 23 : AV) = vi (rdEndM r); unfold rdEndM; (try rw [h1]); try kernel_rfl) (rfl)
 ·
  have h1' := of_decide_eq_false h1
  refine AWp.skip ?_
  refine AWp.rg ?_
  refine AOps.hz [.run 1] 2008 [(6, .ptr 0 0)] [(0, .box 97 (avs (Rd.cells r)))] 1 ?_
  refine AOps.callX 47 [] [] [0] [.box 97 (avs (Rd.cells r))] [.box 97 (avs (Rd.cells r))] (.func 47) [(.tmp 6)] [.ptr 0 0] (vi (rdErrM r)) (rdErrM_ok r) ?_
  refine AOps.he [.run 1] 2008 [(2, vi (rdErrM r))] [(0, .box 97 (avs (Rd.cells r)))] 1 ?_
  refine AWp.ret ?_
  exact leafH (.inr rfl) (r := vi (rdErrM r)) (τ := [(0, .box 97 (avs (Rd.cells r)))]) (by show (vi (rdErrM r) : AV) = vi (rdEndM r); unfold rdEndM; (try rw [h1]); try kernel_rfl) (rfl)
theorem varintM_len (s : ByteArray) : 0 ≤ (varintM s).2.1 ∧ (varintM s).2.1 ≤ (s.size : Int) := by
 unfold varintM
 split
 ·rename_i r hr
  have key : ∀ (m k : Nat) (a : Int) (r : Int × Int × Int), k + m = s.size → loopS (varintM_B1 s) k m a = .inl r → 0 ≤ r.2.1 ∧ r.2.1 ≤ (s.size : Int) := by
   intro m
   induction m with
   | zero => intro k a r _ h; simp [loopS] at h
   | succ m ih =>
    intro k a r hk h
    unfold loopS at h
    split at h
    ·rename_i r' hb
     simp only [Sum.inl.injEq] at h
     subst h
     unfold varintM_B1 at hb
     simp only [cond_eq_ite] at hb
     repeat' split at hb
     all_goals first
      | (cases hb; done)
      | (cases hb; refine ⟨by omega, by omega⟩)
      | (cases hb; exact ⟨by dsimp only; omega, by dsimp only; omega⟩)
    ·cases h
    ·exact ih _ _ _ (by omega) h
  exact key _ _ _ _ (by omega) hr
 ·exact ⟨Int.le_refl _, by dsimp only; omega⟩
def rdIntM (r : Rd) : (Int × Rd) :=
 (bif ((rdErrM r) != 0) then (0, r) else (bif ((((varintM r.rest).2).2) != 0) then (0, (⟨r.rest, (((varintM r.rest).2).2), r.made⟩ : Rd)) else (xorI .i64 (IntKind.i64.wrap (((varintM r.rest).1).fdiv 2)) (IntKind.i64.wrap (0 - IntKind.i64.wrap (andI .u64 ((varintM r.rest).1) 1))), (⟨r.rest.extract ((((varintM r.rest).2).1).toNat) r.rest.size, r.err, r.made⟩ : Rd))))
abbrev rdIntM_c1 (r : Rd) : Nat × AObj := (0, .box 97 [vs (r.rest.extract ((((varintM r.rest).2).1).toNat) r.rest.size), vi r.err, vb r.made])
abbrev rdIntM_c2 (r : Rd) : Nat × AObj := (0, .box 97 [vs r.rest, vi (((varintM r.rest).2).2), vb r.made])
abbrev rdIntM_c3 (r : Rd) : Nat × AObj := (0, .box 97 (avs (Rd.cells r)))
theorem rdIntM_ok (r : Rd) :
 ACalls Try.prog G_ 46 [.ptr 0 0] (number 0 [.box 97 (avs (Rd.cells r))]) 1 (fun r_ τ_ => r_ = vi ((rdIntM r).1) ∧ τ_ = number 0 [.box 97 (avs (Rd.cells ((rdIntM r).2)))]) := by
 refine ACalls.bodyH Try.func46 rfl 2041 [(0, .ptr 0 0)] ?_
 refine AWp.hz [.run 1] 2041 [(0, .ptr 0 0)] [(rdIntM_c3 r)] 1 ?_
 refine AWp.seq ?_
 refine AWp.rg ?_
 refine AOps.hz [.run 1] 2041 [(0, .ptr 0 0), (6, .ptr 0 0)] [(rdIntM_c3 r)] 1 ?_
 refine AOps.callX 47 [] [] [0] [.box 97 (avs (Rd.cells r))] [.box 97 (avs (Rd.cells r))] (.func 47) [(.tmp 6)] [.ptr 0 0] (vi (rdErrM r)) (rdErrM_ok r) ?_
 refine AOps.he [.run 1] 2041 [(0, .ptr 0 0), (8, vb ((rdErrM r) != 0))] [(rdIntM_c3 r)] 1 ?_
 refine AWp.cnd (((rdErrM r) != 0)) (fun h1 => ?_) (fun h1 => ?_)
 ·
  refine AWp.hz [.run 1] 2041 [(2, vi 0)] [(rdIntM_c3 r)] 1 ?_
  refine AWp.ret ?_
  exact leafH (.inr rfl) (r := vi 0) (τ := [(rdIntM_c3 r)]) (by show (vi 0 : AV) = vi ((rdIntM r).1); unfold rdIntM; (try rw [h1]); try kernel_rfl) (by show ([(rdIntM_c3 r)] : Heap) = number 0 [.box 97 (avs (Rd.cells ((rdIntM r).2)))]; unfold rdIntM; (try rw [h1]); try kernel_rfl)
 ·
  refine AWp.skip ?_
  refine AWp.hz [.run 4, .call 75 [vs r.rest] (.tuple [.rv (.v (.int .u64 ((varintM r.rest).1))), vi (((varintM r.rest).2).1), vi (((varintM r.rest).2).2)]) [] 0 (varintM_ok r.rest), .run 7] 2041 [(0, .ptr 0 0), (3, .rv (.v (.int .u64 ((varintM r.rest).1)))), (4, vi (((varintM r.rest).2).1)), (5, vi (((varintM r.rest).2).2))] [(rdIntM_c3 r)] 1 ?_
  refine AWp.seq ?_
  refine AWp.hz [.run 2] 2041 [(0, .ptr 0 0), (3, .rv (.v (.int .u64 ((varintM r.rest).1)))), (4, vi (((varintM r.rest).2).1)), (5, vi (((varintM r.rest).2).2)), (19, vb ((((varintM r.rest).2).2) != 0))] [(rdIntM_c3 r)] 1 ?_
  refine AWp.cnd (((((varintM r.rest).2).2) != 0)) (fun h2 => ?_) (fun h2 => ?_)
  ·
   refine AWp.hz [.run 5] 2041 [] [(rdIntM_c2 r)] 1 ?_
   refine AWp.hz [.run 1] 2041 [(2, vi 0)] [(rdIntM_c2 r)] 1 ?_
   refine AWp.ret ?_
   exact leafH (.inr rfl) (r := vi 0) (τ := [(rdIntM_c2 r)]) (by show (vi 0 : AV) = vi ((rdIntM r).1); unfold rdIntM; (try rw [h1]); (try rw [h2]); try kernel_rfl) (by show ([(rdIntM_c2 r)] : Heap) = number 0 [.box 97 (avs (Rd.cells ((rdIntM r).2)))]; unfold rdIntM; (try rw [h1]); (try rw [h2]); try kernel_rfl)
  ·
   refine AWp.skip ?_
   have := varintM_len r.rest
   have ht3 : (((varintM r.rest).2).1) = (((((varintM r.rest).2).1).toNat : Nat) : Int) := (Int.toNat_of_nonneg (by omega)).symm
   refine AWp.hz [.run 6, .slot 29 (vi (((varintM r.rest).2).1)) (vi (((((varintM r.rest).2).1).toNat : Nat) : Int)) (congrArg vi ht3), .slcS r.rest (some ((((varintM r.rest).2).1).toNat)) none (by first | omega | (simp only [Option.getD_some, Option.getD_none]; omega)) (by first | omega | (simp only [Option.getD_some, Option.getD_none]; omega)), .run 3] 2041 [(3, .rv (.v (.int .u64 ((varintM r.rest).1))))] [(rdIntM_c1 r)] 1 ?_
   refine AWp.rg ?_
   refine AOps.hz [.run 4] 2041 [(35, vi (IntKind.i64.wrap (((varintM r.rest).1).fdiv 2))), (36, .rv (.v (.int .u64 ((varintM r.rest).1))))] [(rdIntM_c1 r)] 1 ?_
   refine AOps.andI .u64 ((varintM r.rest).1) 1 (.tmp 36) (.const (.int .u64 1)) ?_
   refine AOps.hz [.run 2] 2041 [(35, vi (IntKind.i64.wrap (((varintM r.rest).1).fdiv 2))), (39, vi (IntKind.i64.wrap (0 - IntKind.i64.wrap (andI .u64 ((varintM r.rest).1) 1))))] [(rdIntM_c1 r)] 1 ?_
   refine AOps.xorI .i64 (IntKind.i64.wrap (((varintM r.rest).1).fdiv 2)) (IntKind.i64.wrap (0 - IntKind.i64.wrap (andI .u64 ((varintM r.rest).1) 1))) (.tmp 35) (.tmp 39) ?_
   refine AOps.he [.run 1] 2041 [(2, vi (xorI .i64 (IntKind.i64.wrap (((varintM r.rest).1).fdiv 2)) (IntKind.i64.wrap (0 - IntKind.i64.wrap (andI .u64 ((varintM r.rest).1) 1)))))] [(rdIntM_c1 r)] 1 ?_
   refine AWp.ret ?_
   exact leafH (.inr rfl) (r := vi (xorI .i64 (IntKind.i64.wrap (((varintM r.rest).1).fdiv 2)) (IntKind.i64.wrap (0 - IntKind.i64.wrap (andI .u64 ((varintM r.rest).1) 1))))) (τ := [(rdIntM_c1 r)]) (by show (vi (xorI .i64 (IntKind.i64.wrap (((varintM r.rest).1).fdiv 2)) (IntKind.i64.wrap (0 - IntKind.i64.wrap (andI .u64 ((varintM r.rest).1) 1)))) : AV) = vi ((rdIntM r).1); unfold rdIntM; (try rw [h1]); (try rw [h2]); try kernel_rfl) (by show ([(rdIntM_c1 r)] : Heap) = number 0 [.box 97 (avs (Rd.cells ((rdIntM r).2)))]; unfold rdIntM; (try rw [h1]); (try rw [h2]); try kernel_rfl)
def rdCountM (r : Rd) (n : Int) : (Int × Rd) :=
 (bif ((rdErrM ((rdIntM r).2)) != 0) then (0, ((rdIntM r).2)) else (bif decide ((rdIntM r).1 < 0) then (0, (⟨((rdIntM r).2).rest, 4, ((rdIntM r).2).made⟩ : Rd)) else (bif decide ((rdIntM r).1 > (if 0 > n then 0 else n)) then (0, (⟨((rdIntM r).2).rest, 3, ((rdIntM r).2).made⟩ : Rd)) else ((rdIntM r).1, ((rdIntM r).2)))))
abbrev rdCountM_c1 (r : Rd) : Nat × AObj := (0, .box 97 (avs (Rd.cells ((rdIntM r).2))))
abbrev rdCountM_c2 (r : Rd) : Nat × AObj := (0, .box 97 [vs (((rdIntM r).2).rest), vi 4, vb (((rdIntM r).2).made)])
abbrev rdCountM_c3 (r : Rd) : Nat × AObj := (0, .box 97 [vs (((rdIntM r).2).rest), vi 3, vb (((rdIntM r).2).made)])
theorem rdCountM_ok (r : Rd) (n : Int) :
 ACalls Try.prog G_ 50 [.ptr 0 0, vi n] (number 0 [.box 97 (avs (Rd.cells r))]) 1 (fun r_ τ_ => r_ = vi ((rdCountM r n).1) ∧ τ_ = number 0 [.box 97 (avs (Rd.cells ((rdCountM r n).2)))]) := by
 refine ACalls.bodyH Try.func50 rfl 2027 [(0, .ptr 0 0), (1, vi n)] ?_
 refine AWp.hz [.run 1] 2027 [(0, .ptr 0 0), (1, vi n)] [(0, .box 97 (avs (Rd.cells r)))] 1 ?_
 refine AWp.rg ?_
 refine AOps.hz [.run 1] 2027 [(0, .ptr 0 0), (1, vi n), (6, .ptr 0 0)] [(0, .box 97 (avs (Rd.cells r)))] 1 ?_
 refine AOps.callX 46 [] [] [0] [.box 97 (avs (Rd.cells r))] [.box 97 (avs (Rd.cells ((rdIntM r).2)))] (.func 46) [(.tmp 6)] [.ptr 0 0] (vi ((rdIntM r).1)) (rdIntM_ok r) ?_
 refine AOps.he [.run 1] 2027 [(0, .ptr 0 0), (1, vi n), (5, vi ((rdIntM r).1))] [(rdCountM_c1 r)] 1 ?_
 refine AWp.seq ?_
 refine AWp.block ?_
 refine AWp.rg ?_
 refine AOps.hz [.run 1] 2027 [(0, .ptr 0 0), (1, vi n), (5, vi ((rdIntM r).1)), (9, .ptr 0 0)] [(rdCountM_c1 r)] 1 ?_
 refine AOps.callX 47 [] [] [0] [.box 97 (avs (Rd.cells ((rdIntM r).2)))] [.box 97 (avs (Rd.cells ((rdIntM r).2)))] (.func 47) [(.tmp 9)] [.ptr 0 0] (vi (rdErrM ((rdIntM r).2))) (rdErrM_ok ((rdIntM r).2)) ?_
 refine AOps.he [.run 2] 2027 [(0, .ptr 0 0), (1, vi n), (5, vi ((rdIntM r).1)), (8, vb ((rdErrM ((rdIntM r).2)) != 0))] [(rdCountM_c1 r)] 1 ?_
 refine AWp.cnd (((rdErrM ((rdIntM r).2)) != 0)) (fun h1 => ?_) (fun h1 => ?_)
 ·
  refine AWp.hz [.run 1] 2027 [(4, vi 0)] [(rdCountM_c1 r)] 1 ?_
  refine AWp.ret ?_
  exact leafH (.inr rfl) (r := vi 0) (τ := [(rdCountM_c1 r)]) (by show (vi 0 : AV) = vi ((rdCountM r n).1); unfold rdCountM; (try rw [h1]); try kernel_rfl) (by show ([(rdCountM_c1 r)] : Heap) = number 0 [.box 97 (avs (Rd.cells ((rdCountM r n).2)))]; unfold rdCountM; (try rw [h1]); try kernel_rfl)
 ·
  refine AWp.hz [.run 3] 2027 [(0, .ptr 0 0), (1, vi n), (5, vi ((rdIntM r).1)), (12, vb (decide ((rdIntM r).1 < 0)))] [(rdCountM_c1 r)] 1 ?_
  refine AWp.cnd (decide ((rdIntM r).1 < 0)) (fun h2 => ?_) (fun h2 => ?_)
  ·
   have h2' := of_decide_eq_true h2
   refine AWp.hz [.run 4] 2027 [] [(rdCountM_c2 r)] 1 ?_
   refine AWp.hz [.run 1] 2027 [(4, vi 0)] [(rdCountM_c2 r)] 1 ?_
   refine AWp.ret ?_
   exact leafH (.inr rfl) (r := vi 0) (τ := [(rdCountM_c2 r)]) (by show (vi 0 : AV) = vi ((rdCountM r n).1); unfold rdCountM; (try rw [h1]); (try rw [h2]); try kernel_rfl) (by show ([(rdCountM_c2 r)] : Heap) = number 0 [.box 97 (avs (Rd.cells ((rdCountM r n).2)))]; unfold rdCountM; (try rw [h1]); (try rw [h2]); try kernel_rfl)
  ·
   have h2' := of_decide_eq_false h2
   refine AWp.hz [.run 2, .mnx true n 0, .run 2] 2027 [(0, .ptr 0 0), (5, vi ((rdIntM r).1)), (18, vb (decide ((rdIntM r).1 > (if 0 > n then 0 else n))))] [(rdCountM_c1 r)] 1 ?_
   refine AWp.cnd (decide ((rdIntM r).1 > (if 0 > n then 0 else n))) (fun h3 => ?_) (fun h3 => ?_)
   ·
    have h3' := of_decide_eq_true h3
    refine AWp.hz [.run 4] 2027 [] [(rdCountM_c3 r)] 1 ?_
    refine AWp.hz [.run 1] 2027 [(4, vi 0)] [(rdCountM_c3 r)] 1 ?_
    refine AWp.ret ?_
    exact leafH (.inr rfl) (r := vi 0) (τ := [(rdCountM_c3 r)]) (by show (vi 0 : AV) = vi ((rdCountM r n).1); unfold rdCountM; (try rw [h1]); (try rw [h2]); (try rw [h3]); try kernel_rfl) (by show ([(rdCountM_c3 r)] : Heap) = number 0 [.box 97 (avs (Rd.cells ((rdCountM r n).2)))]; unfold rdCountM; (try rw [h1]); (try rw [h2]); (try rw [h3]); try kernel_rfl)
   ·
    have h3' := of_decide_eq_false h3
    refine AWp.skip ?_
    refine AWp.hz [.run 2] 2027 [(4, vi ((rdIntM r).1))] [(rdCountM_c1 r)] 1 ?_
    refine AWp.ret ?_
    exact leafH (.inr rfl) (r := vi ((rdIntM r).1)) (τ := [(rdCountM_c1 r)]) (by show (vi ((rdIntM r).1) : AV) = vi ((rdCountM r n).1); unfold rdCountM; (try rw [h1]); (try rw [h2]); (try rw [h3]); try kernel_rfl) (by show ([(rdCountM_c1 r)] : Heap) = number 0 [.box 97 (avs (Rd.cells ((rdCountM r n).2)))]; unfold rdCountM; (try rw [h1]); (try rw [h2]); (try rw [h3]); try kernel_rfl)
theorem rdCountM_nn (r : Rd) (n : Int) : 0 ≤ (rdCountM r n).1 := by
 unfold rdCountM
 cases hA : ((rdErrM ((rdIntM r).2)) != 0) with
 | true => exact Int.le_refl _
 | false =>
  simp only [cond_false]
  cases hB : decide ((rdIntM r).1 < 0) with
  | true => exact Int.le_refl _
  | false =>
   simp only [cond_false]
   have hB := of_decide_eq_false hB
   cases hC : decide ((rdIntM r).1 > (if 0 > n then 0 else n)) with
   | true => exact Int.le_refl _
   | false =>
    simp only [cond_false]
    omega
def rdTextM (r : Rd) (n : Int) : (ByteArray × Rd) :=
 (bif ((rdErrM ((rdCountM r n).2)) != 0) then (⟨#[]⟩, ((rdCountM r n).2)) else (bif decide ((rdCountM r n).1 > (((((rdCountM r n).2).rest).size : Nat) : Int)) then (⟨#[]⟩, (⟨((rdCountM r n).2).rest, 5, ((rdCountM r n).2).made⟩ : Rd)) else ((((rdCountM r n).2).rest).extract 0 (((rdCountM r n).1).toNat), (⟨(((rdCountM r n).2).rest).extract (((rdCountM r n).1).toNat) (((rdCountM r n).2).rest).size, ((rdCountM r n).2).err, ((rdCountM r n).2).made⟩ : Rd))))
abbrev rdTextM_c1 (r : Rd) (n : Int) : Nat × AObj := (0, .box 97 [vs ((((rdCountM r n).2).rest).extract (((rdCountM r n).1).toNat) (((rdCountM r n).2).rest).size), vi (((rdCountM r n).2).err), vb (((rdCountM r n).2).made)])
abbrev rdTextM_c2 (r : Rd) (n : Int) : Nat × AObj := (0, .box 97 (avs (Rd.cells ((rdCountM r n).2))))
abbrev rdTextM_c3 (r : Rd) (n : Int) : Nat × AObj := (0, .box 97 [vs (((rdCountM r n).2).rest), vi 5, vb (((rdCountM r n).2).made)])
theorem rdTextM_ok (r : Rd) (n : Int) :
 ACalls Try.prog G_ 52 [.ptr 0 0, vi n] (number 0 [.box 97 (avs (Rd.cells r))]) 1 (fun r_ τ_ => r_ = vs ((rdTextM r n).1) ∧ τ_ = number 0 [.box 97 (avs (Rd.cells ((rdTextM r n).2)))]) := by
 refine ACalls.bodyH Try.func52 rfl 2039 [(0, .ptr 0 0), (1, vi n)] ?_
 refine AWp.hz [.run 1] 2039 [(0, .ptr 0 0), (1, vi n)] [(0, .box 97 (avs (Rd.cells r)))] 1 ?_
 refine AWp.rg ?_
 refine AOps.hz [.run 2] 2039 [(0, .ptr 0 0), (7, .ptr 0 0), (8, vi n)] [(0, .box 97 (avs (Rd.cells r)))] 1 ?_
 refine AOps.callX 50 [] [] [0] [.box 97 (avs (Rd.cells r))] [.box 97 (avs (Rd.cells ((rdCountM r n).2)))] (.func 50) [(.tmp 7), (.tmp 8)] [.ptr 0 0, vi n] (vi ((rdCountM r n).1)) (rdCountM_ok r n) ?_
 refine AOps.he [.run 1] 2039 [(0, .ptr 0 0), (5, vi ((rdCountM r n).1))] [(rdTextM_c2 r n)] 1 ?_
 refine AWp.seq ?_
 refine AWp.rg ?_
 refine AOps.hz [.run 1] 2039 [(0, .ptr 0 0), (5, vi ((rdCountM r n).1)), (10, .ptr 0 0)] [(rdTextM_c2 r n)] 1 ?_
 refine AOps.callX 47 [] [] [0] [.box 97 (avs (Rd.cells ((rdCountM r n).2)))] [.box 97 (avs (Rd.cells ((rdCountM r n).2)))] (.func 47) [(.tmp 10)] [.ptr 0 0] (vi (rdErrM ((rdCountM r n).2))) (rdErrM_ok ((rdCountM r n).2)) ?_
 refine AOps.he [.run 1] 2039 [(0, .ptr 0 0), (5, vi ((rdCountM r n).1)), (12, vb ((rdErrM ((rdCountM r n).2)) != 0))] [(rdTextM_c2 r n)] 1 ?_
 refine AWp.cnd (((rdErrM ((rdCountM r n).2)) != 0)) (fun h1 => ?_) (fun h1 => ?_)
 ·
  refine AWp.hz [.run 1] 2039 [(4, vs (⟨#[]⟩))] [(rdTextM_c2 r n)] 1 ?_
  refine AWp.ret ?_
  exact leafH (.inr rfl) (r := vs (⟨#[]⟩)) (τ := [(rdTextM_c2 r n)]) (by show (vs (⟨#[]⟩) : AV) = vs ((rdTextM r n).1); unfold rdTextM; (try rw [h1]); try kernel_rfl) (by show ([(rdTextM_c2 r n)] : Heap) = number 0 [.box 97 (avs (Rd.cells ((rdTextM r n).2)))]; unfold rdTextM; (try rw [h1]); try kernel_rfl)
 ·
  refine AWp.skip ?_
  refine AWp.seq ?_
  refine AWp.hz [.run 7] 2039 [(0, .ptr 0 0), (5, vi ((rdCountM r n).1)), (19, vb (decide ((rdCountM r n).1 > (((((rdCountM r n).2).rest).size : Nat) : Int))))] [(rdTextM_c2 r n)] 1 ?_
  refine AWp.cnd (decide ((rdCountM r n).1 > (((((rdCountM r n).2).rest).size : Nat) : Int))) (fun h2 => ?_) (fun h2 => ?_)
  ·
   have h2' := of_decide_eq_true h2
   refine AWp.hz [.run 4] 2039 [] [(rdTextM_c3 r n)] 1 ?_
   refine AWp.hz [.run 1] 2039 [(4, vs (⟨#[]⟩))] [(rdTextM_c3 r n)] 1 ?_
   refine AWp.ret ?_
   exact leafH (.inr rfl) (r := vs (⟨#[]⟩)) (τ := [(rdTextM_c3 r n)]) (by show (vs (⟨#[]⟩) : AV) = vs ((rdTextM r n).1); unfold rdTextM; (try rw [h1]); (try rw [h2]); try kernel_rfl) (by show ([(rdTextM_c3 r n)] : Heap) = number 0 [.box 97 (avs (Rd.cells ((rdTextM r n).2)))]; unfold rdTextM; (try rw [h1]); (try rw [h2]); try kernel_rfl)
  ·
   have h2' := of_decide_eq_false h2
   refine AWp.skip ?_
   have := rdCountM_nn r n
   have ht3 : ((rdCountM r n).1) = ((((rdCountM r n).1).toNat : Nat) : Int) := (Int.toNat_of_nonneg (by omega)).symm
   refine AWp.hz [.run 5, .slot 27 (vi ((rdCountM r n).1)) (vi ((((rdCountM r n).1).toNat : Nat) : Int)) (congrArg vi ht3), .slcS (((rdCountM r n).2).rest) none (some (((rdCountM r n).1).toNat)) (by first | omega | (simp only [Option.getD_some, Option.getD_none]; omega)) (by first | omega | (simp only [Option.getD_some, Option.getD_none]; omega)), .run 1] 2039 [(0, .ptr 0 0), (5, vi ((rdCountM r n).1)), (6, vs ((((rdCountM r n).2).rest).extract 0 (((rdCountM r n).1).toNat)))] [(rdTextM_c2 r n)] 1 ?_
   have := rdCountM_nn r n
   have ht4 : ((rdCountM r n).1) = ((((rdCountM r n).1).toNat : Nat) : Int) := (Int.toNat_of_nonneg (by omega)).symm
   refine AWp.hz [.run 6, .slot 34 (vi ((rdCountM r n).1)) (vi ((((rdCountM r n).1).toNat : Nat) : Int)) (congrArg vi ht4), .slcS (((rdCountM r n).2).rest) (some (((rdCountM r n).1).toNat)) none (by first | omega | (simp only [Option.getD_some, Option.getD_none]; omega)) (by first | omega | (simp only [Option.getD_some, Option.getD_none]; omega)), .run 3] 2039 [(6, vs ((((rdCountM r n).2).rest).extract 0 (((rdCountM r n).1).toNat)))] [(rdTextM_c1 r n)] 1 ?_
   refine AWp.hz [.run 2] 2039 [(4, vs ((((rdCountM r n).2).rest).extract 0 (((rdCountM r n).1).toNat)))] [(rdTextM_c1 r n)] 1 ?_
   refine AWp.ret ?_
   exact leafH (.inr rfl) (r := vs ((((rdCountM r n).2).rest).extract 0 (((rdCountM r n).1).toNat))) (τ := [(rdTextM_c1 r n)]) (by show (vs ((((rdCountM r n).2).rest).extract 0 (((rdCountM r n).1).toNat)) : AV) = vs ((rdTextM r n).1); unfold rdTextM; (try rw [h1]); (try rw [h2]); try kernel_rfl) (by show ([(rdTextM_c1 r n)] : Heap) = number 0 [.box 97 (avs (Rd.cells ((rdTextM r n).2)))]; unfold rdTextM; (try rw [h1]); (try rw [h2]); try kernel_rfl)
def takeM_v1 (r : Rd) : Val := (bif (((rdIntM r).1 == 1) || (((rdIntM r).1 == 2) || ((rdIntM r).1 == 3))) then (⟨(rdIntM r).1, (rdIntM ((rdIntM r).2)).1, ⟨#[]⟩⟩ : Val) else (bif ((rdIntM r).1 == 4) then (⟨(rdIntM r).1, 0, (rdTextM ((rdIntM r).2) 60).1⟩ : Val) else (⟨(rdIntM r).1, 0, ⟨#[]⟩⟩ : Val)))
def takeM_v2 (r : Rd) : Rd := (bif (((rdIntM r).1 == 1) || (((rdIntM r).1 == 2) || ((rdIntM r).1 == 3))) then ((rdIntM ((rdIntM r).2)).2) else (bif ((rdIntM r).1 == 4) then ((rdTextM ((rdIntM r).2) 60).2) else ((rdIntM r).2)))
def takeM_v3 (r : Rd) : Rd := (bif (vCheckM (takeM_v1 r) != 0) then (rdFailM (takeM_v2 r) 4) else (takeM_v2 r))
def takeM (r : Rd) : (Val × Rd) :=
 (bif ((rdErrM (takeM_v3 r)) != 0) then ((⟨0, 0, ⟨#[]⟩⟩ : Val), (takeM_v3 r)) else ((takeM_v1 r), (takeM_v3 r)))
abbrev takeM_c1 : Nat × AObj := (1, .box 53 [vi 0, vi 0, vs (⟨#[]⟩)])
abbrev takeM_c2 (r : Rd) : Nat × AObj := (2, .box 53 [vi ((rdIntM r).1), vi 0, vs (⟨#[]⟩)])
abbrev takeM_c3 (r : Rd) : Nat × AObj := (0, .box 97 (avs (Rd.cells ((rdIntM r).2))))
abbrev takeM_c4 (r : Rd) : Nat × AObj := (0, .box 97 (avs (Rd.cells (takeM_v3 r))))
abbrev takeM_c5 (r : Rd) : Nat × AObj := (2, .box 53 (avs (Val.cells (takeM_v1 r))))
theorem takeM_ok (r : Rd) :
 ACalls Try.prog G_ 54 [.ptr 0 0] (number 0 [.box 97 (avs (Rd.cells r))]) 1 (fun r_ τ_ => r_ = .agg (avs (Val.cells ((takeM r).1))) ∧ τ_ = number 0 [.box 97 (avs (Rd.cells ((takeM r).2)))]) := by
 refine ACalls.bodyH Try.func54 rfl 2031 [(0, .ptr 0 0)] ?_
 refine AWp.hz [.run 1] 2031 [(0, .ptr 0 0), (2, .ptr 1 0)] [takeM_c1, (0, .box 97 (avs (Rd.cells r)))] 2 ?_
 refine AWp.rg ?_
 refine AOps.hz [.run 1] 2031 [(0, .ptr 0 0), (2, .ptr 1 0), (4, .ptr 0 0)] [takeM_c1, (0, .box 97 (avs (Rd.cells r)))] 2 ?_
 refine AOps.callX 46 [] [] [0] [.box 97 (avs (Rd.cells r))] [.box 97 (avs (Rd.cells ((rdIntM r).2)))] (.func 46) [(.tmp 4)] [.ptr 0 0] (vi ((rdIntM r).1)) (rdIntM_ok r) ?_
 refine AOps.he [.run 3] 2031 [(0, .ptr 0 0), (2, .ptr 1 0), (3, .ptr 2 0)] [(takeM_c2 r), takeM_c1, (takeM_c3 r)] 3 ?_
 refine AWp.join (Z 2031 [(0, .ptr 0 0), (2, .ptr 1 0), (3, .ptr 2 0)] [(2, .box 53 (avs (Val.cells (takeM_v1 r)))), (1, .box 53 [vi 0, vi 0, vs (⟨#[]⟩)]), (0, .box 97 (avs (Rd.cells (takeM_v2 r))))] 3) ?_ ?_
 ·
  refine AWp.hz [.run 2] 2031 [(0, .ptr 0 0), (2, .ptr 1 0), (3, .ptr 2 0), (8, vi ((rdIntM r).1))] [(takeM_c2 r), takeM_c1, (takeM_c3 r)] 3 ?_
  refine AWp.block ?_
  refine AWp.join (Z 2031 [(0, .ptr 0 0), (2, .ptr 1 0), (3, .ptr 2 0), (8, vi ((rdIntM r).1)), (9, vb (((rdIntM r).1 == 1) || (((rdIntM r).1 == 2) || ((rdIntM r).1 == 3))))] [(2, .box 53 [vi ((rdIntM r).1), vi 0, vs (⟨#[]⟩)]), (1, .box 53 [vi 0, vi 0, vs (⟨#[]⟩)]), (0, .box 97 (avs (Rd.cells ((rdIntM r).2))))] 3) ?_ ?_
  ·
   refine AWp.hz [.run 2] 2031 [(0, .ptr 0 0), (2, .ptr 1 0), (3, .ptr 2 0), (8, vi ((rdIntM r).1)), (9, vb ((rdIntM r).1 == 1))] [(takeM_c2 r), takeM_c1, (takeM_c3 r)] 3 ?_
   refine AWp.cnd (((rdIntM r).1 == 1)) (fun h1 => ?_) (fun h1 => ?_)
   ·
    refine AWp.skip ?_
    exact leZ (by rw [h1]; try kernel_rfl)
   ·
    refine AWp.hz [.run 2] 2031 [(0, .ptr 0 0), (2, .ptr 1 0), (3, .ptr 2 0), (8, vi ((rdIntM r).1)), (9, vb ((rdIntM r).1 == 2))] [(takeM_c2 r), takeM_c1, (takeM_c3 r)] 3 ?_
    refine AWp.cnd (((rdIntM r).1 == 2)) (fun h2 => ?_) (fun h2 => ?_)
    ·
     refine AWp.skip ?_
     exact leZ (by rw [h1, h2]; try kernel_rfl)
    ·
     refine AWp.he [.run 2] 2031 [(0, .ptr 0 0), (2, .ptr 1 0), (3, .ptr 2 0), (8, vi ((rdIntM r).1)), (9, vb ((rdIntM r).1 == 3))] [(takeM_c2 r), takeM_c1, (takeM_c3 r)] 3 ?_
     exact leZ (by rw [h1, h2]; try kernel_rfl)
  ·
   refine AWp.cnd ((((rdIntM r).1 == 1) || (((rdIntM r).1 == 2) || ((rdIntM r).1 == 3)))) (fun h3 => ?_) (fun h3 => ?_)
   ·
    refine AWp.region ?_
    refine AOps.hz [.run 1] 2031 [(0, .ptr 0 0), (2, .ptr 1 0), (3, .ptr 2 0), (13, .ptr 0 0)] [(takeM_c2 r), takeM_c1, (takeM_c3 r)] 3 ?_
    refine AOps.callX 46 [] [] [0] [.box 97 (avs (Rd.cells ((rdIntM r).2)))] [.box 97 (avs (Rd.cells ((rdIntM ((rdIntM r).2)).2)))] (.func 46) [(.tmp 13)] [.ptr 0 0] (vi ((rdIntM ((rdIntM r).2)).1)) (rdIntM_ok ((rdIntM r).2)) ?_
    refine AOps.he [.run 2] 2031 [(0, .ptr 0 0), (2, .ptr 1 0), (3, .ptr 2 0)] [(2, .box 53 [vi ((rdIntM r).1), vi ((rdIntM ((rdIntM r).2)).1), vs (⟨#[]⟩)]), takeM_c1, (0, .box 97 (avs (Rd.cells ((rdIntM ((rdIntM r).2)).2))))] 3 ?_
    exact leZ (by rw [takeM_v1, takeM_v2, h3]; try kernel_rfl)
   ·
    have h3l := or_fl h3
    have h3r := or_fr h3
    have h3rl := or_fl h3r
    have h3rr := or_fr h3r
    refine AWp.hz [.run 2] 2031 [(0, .ptr 0 0), (2, .ptr 1 0), (3, .ptr 2 0), (16, vb ((rdIntM r).1 == 4))] [(takeM_c2 r), takeM_c1, (takeM_c3 r)] 3 ?_
    refine AWp.cnd (((rdIntM r).1 == 4)) (fun h4 => ?_) (fun h4 => ?_)
    ·
     refine AWp.region ?_
     refine AOps.hz [.run 1] 2031 [(0, .ptr 0 0), (2, .ptr 1 0), (3, .ptr 2 0), (18, .ptr 0 0)] [(takeM_c2 r), takeM_c1, (takeM_c3 r)] 3 ?_
     refine AOps.callX 52 [] [] [0] [.box 97 (avs (Rd.cells ((rdIntM r).2)))] [.box 97 (avs (Rd.cells ((rdTextM ((rdIntM r).2) 60).2)))] (.func 52) [(.tmp 18), (.const (.int .i64 60))] [.ptr 0 0, vi 60] (vs ((rdTextM ((rdIntM r).2) 60).1)) (rdTextM_ok ((rdIntM r).2) 60) ?_
     refine AOps.he [.run 2] 2031 [(0, .ptr 0 0), (2, .ptr 1 0), (3, .ptr 2 0)] [(2, .box 53 [vi ((rdIntM r).1), vi 0, vs ((rdTextM ((rdIntM r).2) 60).1)]), takeM_c1, (0, .box 97 (avs (Rd.cells ((rdTextM ((rdIntM r).2) 60).2))))] 3 ?_
     exact leZ (by rw [takeM_v1, takeM_v2, h3, h4]; try kernel_rfl)
    ·
     refine AWp.skip ?_
     exact leZ (by rw [takeM_v1, takeM_v2, h3, h4]; try kernel_rfl)
 ·
  refine AWp.join (Z 2031 [(0, .ptr 0 0), (2, .ptr 1 0), (3, .ptr 2 0)] [(2, .box 53 (avs (Val.cells (takeM_v1 r)))), (1, .box 53 [vi 0, vi 0, vs (⟨#[]⟩)]), (0, .box 97 (avs (Rd.cells (takeM_v3 r))))] 3) ?_ ?_
  ·
   refine AWp.hz [.run 1, .call 71 [.agg (avs (Val.cells (takeM_v1 r)))] (vi (vCheckM (takeM_v1 r))) [] 0 (vCheckM_ok (takeM_v1 r)), .run 1] 2031 [(0, .ptr 0 0), (2, .ptr 1 0), (3, .ptr 2 0), (23, vb (vCheckM (takeM_v1 r) != 0))] [(takeM_c5 r), takeM_c1, (0, .box 97 (avs (Rd.cells (takeM_v2 r))))] 3 ?_
   refine AWp.cnd ((vCheckM (takeM_v1 r) != 0)) (fun h5 => ?_) (fun h5 => ?_)
   ·
    refine AWp.region ?_
    refine AOps.hz [.run 1] 2031 [(0, .ptr 0 0), (2, .ptr 1 0), (3, .ptr 2 0), (24, .ptr 0 0)] [(takeM_c5 r), takeM_c1, (0, .box 97 (avs (Rd.cells (takeM_v2 r))))] 3 ?_
    refine AOps.callX 76 [] [] [0] [.box 97 (avs (Rd.cells (takeM_v2 r)))] [.box 97 (avs (Rd.cells (rdFailM (takeM_v2 r) 4)))] (.func 76) [(.tmp 24), (.const (.int .i64 4))] [.ptr 0 0, vi 4] (.tuple []) (rdFailM_ok (takeM_v2 r) 4) ?_
    refine AOps.he [] 2031 [(0, .ptr 0 0), (2, .ptr 1 0), (3, .ptr 2 0)] [(takeM_c5 r), takeM_c1, (0, .box 97 (avs (Rd.cells (rdFailM (takeM_v2 r) 4))))] 3 ?_
    exact leZ (by rw [takeM_v3, h5]; try kernel_rfl)
   ·
    refine AWp.skip ?_
    exact leZ (by rw [takeM_v3, h5]; try kernel_rfl)
  ·
   refine AWp.seq ?_
   refine AWp.rg ?_
   refine AOps.hz [.run 1] 2031 [(2, .ptr 1 0), (3, .ptr 2 0), (26, .ptr 0 0)] [(takeM_c5 r), takeM_c1, (takeM_c4 r)] 3 ?_
   refine AOps.callX 47 [] [] [0] [.box 97 (avs (Rd.cells (takeM_v3 r)))] [.box 97 (avs (Rd.cells (takeM_v3 r)))] (.func 47) [(.tmp 26)] [.ptr 0 0] (vi (rdErrM (takeM_v3 r))) (rdErrM_ok (takeM_v3 r)) ?_
   refine AOps.he [.run 1] 2031 [(2, .ptr 1 0), (3, .ptr 2 0), (28, vb ((rdErrM (takeM_v3 r)) != 0))] [(takeM_c5 r), takeM_c1, (takeM_c4 r)] 3 ?_
   refine AWp.cnd (((rdErrM (takeM_v3 r)) != 0)) (fun h6 => ?_) (fun h6 => ?_)
   ·
    refine AWp.hz [.run 2] 2031 [(2, .ptr 1 0)] [takeM_c1, (takeM_c4 r)] 3 ?_
    refine AWp.ret ?_
    exact leafH (.inr rfl) (r := .agg [vi 0, vi 0, vs (⟨#[]⟩)]) (τ := [(takeM_c4 r)]) (by show (.agg [vi 0, vi 0, vs (⟨#[]⟩)] : AV) = .agg (avs (Val.cells ((takeM r).1))); unfold takeM; (try rw [h6]); try kernel_rfl) (by show ([(takeM_c4 r)] : Heap) = number 0 [.box 97 (avs (Rd.cells ((takeM r).2)))]; unfold takeM; (try rw [h6]); try kernel_rfl)
   ·
    refine AWp.skip ?_
    refine AWp.hz [.run 2] 2031 [(2, .ptr 1 0)] [(1, .box 53 (avs (Val.cells (takeM_v1 r)))), (takeM_c4 r)] 3 ?_
    refine AWp.ret ?_
    exact leafH (.inr rfl) (r := .agg (avs (Val.cells (takeM_v1 r)))) (τ := [(takeM_c4 r)]) (by show (.agg (avs (Val.cells (takeM_v1 r))) : AV) = .agg (avs (Val.cells ((takeM r).1))); unfold takeM; (try rw [h6]); try kernel_rfl) (by show ([(takeM_c4 r)] : Heap) = number 0 [.box 97 (avs (Rd.cells ((takeM r).2)))]; unfold takeM; (try rw [h6]); try kernel_rfl)
end Go.Proofs.Ytnnlaccdendkpaa
