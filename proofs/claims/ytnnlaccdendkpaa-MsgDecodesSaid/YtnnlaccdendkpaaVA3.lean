/- Attributes: the contracts. -/
import Derived.Test.YtnnlaccdendkpaaVA2
namespace Go.Proofs.Ytnnlaccdendkpaa
open Go Go.Av Go.Hh Go.Proofs
set_option maxRecDepth 100000
set_option maxHeartbeats 4000000
def validM_B1 (x : ByteArray) (k1_ : Nat) : Option Bool :=
 (bif (!(letterM (((Utf8.decode x k1_).1 : Nat) : Int)) && (((k1_ : Int) == 0) || ((((((Utf8.decode x k1_).1 : Nat) : Int) != 95) && ((((Utf8.decode x k1_).1 : Nat) : Int) != 45)) && (decide ((((Utf8.decode x k1_).1 : Nat) : Int) < 48) || decide ((((Utf8.decode x k1_).1 : Nat) : Int) > 57))))) then some false else none)
def validM_L1 (x : ByteArray) : Option Bool := scanR x (validM_B1 x) x.size 0
def validM (x : ByteArray) : Bool :=
 (bif (decide ((x.size : Int) < 1) || decide ((x.size : Int) > 24)) then false else (validM_L1 x).getD true)
abbrev validM_c1 (x : ByteArray) (k1_ : Nat) : Nat × AObj := (0, .oth (strIt x (k1_ + (Utf8.decode x k1_).2)))
abbrev validM_c2 (x : ByteArray) (k1_ : Nat) : Nat × AV := (4, .rv (.v (.int .i32 (((Utf8.decode x k1_).1 : Nat) : Int))))
theorem validM_ok (x : ByteArray) :
 ACalls Try.prog G_ 26 [vs x] [] 0 (fun r τ => r = vb (validM x) ∧ τ = []) := by
 refine ACalls.body Try.func26 rfl 42 [(0, vs x)] ?_
 refine AWp.hz [.run 1] 42 [(0, vs x)] [] 0 ?_
 refine AWp.seq ?_
 refine AWp.join (Z 42 [(0, vs x), (12, vb (decide ((x.size : Int) < 1) || decide ((x.size : Int) > 24)))] [] 0) ?_ ?_
 ·
  refine AWp.region ?_
  refine AOps.hg [.run 4] (decide ((x.size : Int) < 1)) 42 (fun b_ => [(0, vs x), (8, vb b_)]) [] 0 (fun hg1 => ?_) (fun hg1 => ?_)
  ·
   have hg1' := of_decide_eq_true hg1
   refine AOps.he [.run 4] 42 [(0, vs x), (12, vb true)] [] 0 ?_
   exact leZ (by rw [hg1]; try kernel_rfl)
  ·
   have hg1' := of_decide_eq_false hg1
   refine AOps.he [.run 4] 42 [(0, vs x), (12, vb (decide ((x.size : Int) > 24)))] [] 0 ?_
   exact leZ (by rw [hg1]; try kernel_rfl)
 ·
  refine AWp.cnd ((decide ((x.size : Int) < 1) || decide ((x.size : Int) > 24))) (fun h2 => ?_) (fun h2 => ?_)
  ·
   refine AWp.hz [.run 1] 42 [(2, vb false)] [] 0 ?_
   refine AWp.ret ?_
   exact leafR (r := vb false) (by unfold validM; (try rw [h2]); try kernel_rfl)
  ·
   have h2l := or_fl h2
   have h2l' := of_decide_eq_false h2l
   have h2r := or_fr h2
   have h2r' := of_decide_eq_false h2r
   refine AWp.skip ?_
   refine AWp.seq ?_
   refine AWp.hz [.run 1, .rng x] 42 [(14, .ref 0)] [(0, .oth (strIt x 0))] 1 ?_
   refine AWp.block ?_
   refine AWp.loop (ι := Nat) (fun k1_ => Z 42 [(14, .ref 0)] [(0, .oth (strIt x k1_))] 1) (fun k1_ => validM_L1 x = scanR x (validM_B1 x) (x.size - k1_) k1_) (fun k1_ => x.size - k1_) 0 leZ rfl ?_
   intro k1_ hs1_
   refine AWp.rg ?_
   refine AOps.split (decide (k1_ < x.size)) (fun h3 => ?_) (fun h3 => ?_)
   ·
    have h3' := of_decide_eq_true h3
    refine AOps.step (by kernel_rfl) (R_nextM x k1_ 0 rfl (by kernel_rfl) (by kernel_rfl) (by omega)) ?_
    refine AOps.he [.run 1] 42 [(14, .ref 0), (15, .tuple [vb true, vi (k1_ : Int), .rv (.v (.int .i32 (((Utf8.decode x k1_).1 : Nat) : Int)))]), (16, vb true)] [(validM_c1 x k1_)] 1 ?_
    refine AWp.seq ?_
    refine AWp.cndT ?_
    refine AWp.skip ?_
    refine AWp.block ?_
    refine AWp.hz [.run 4] 42 [(3, vi (k1_ : Int)), (validM_c2 x k1_), (14, .ref 0)] [(validM_c1 x k1_)] 1 ?_
    refine AWp.join (Z 42 [(14, .ref 0), (41, vb (!(letterM (((Utf8.decode x k1_).1 : Nat) : Int)) && (((k1_ : Int) == 0) || ((((((Utf8.decode x k1_).1 : Nat) : Int) != 95) && ((((Utf8.decode x k1_).1 : Nat) : Int) != 45)) && (decide ((((Utf8.decode x k1_).1 : Nat) : Int) < 48) || decide ((((Utf8.decode x k1_).1 : Nat) : Int) > 57))))))] [(0, .oth (strIt x (k1_ + (Utf8.decode x k1_).2)))] 1) ?_ ?_
    ·
     refine AWp.region ?_
     refine AOps.hg [.run 1, .call 72 [.rv (.v (.int .i32 (((Utf8.decode x k1_).1 : Nat) : Int)))] (vb (letterM (((Utf8.decode x k1_).1 : Nat) : Int))) [] 0 (letterM_ok (((Utf8.decode x k1_).1 : Nat) : Int)), .run 2] (!(letterM (((Utf8.decode x k1_).1 : Nat) : Int))) 42 (fun b_ => [(3, vi (k1_ : Int)), (validM_c2 x k1_), (14, .ref 0), (22, vb b_)]) [(validM_c1 x k1_)] 1 (fun hg4 => ?_) (fun hg4 => ?_)
     ·
      refine AOps.hg [.run 3] (((k1_ : Int) == 0)) 42 (fun b_ => [(validM_c2 x k1_), (14, .ref 0), (22, vb true), (25, vb b_)]) [(validM_c1 x k1_)] 1 (fun hg5 => ?_) (fun hg5 => ?_)
      ·
       have hg5' := beq_t hg5
       refine AOps.he [.run 16] 42 [(14, .ref 0), (41, vb true)] [(validM_c1 x k1_)] 1 ?_
       exact leZ (by rw [hg4, hg5]; try kernel_rfl)
      ·
       have hg5' := beq_f hg5
       refine AOps.hg [.run 3] (((((Utf8.decode x k1_).1 : Nat) : Int) != 95)) 42 (fun b_ => [(validM_c2 x k1_), (14, .ref 0), (22, vb true), (25, vb false), (28, vb b_)]) [(validM_c1 x k1_)] 1 (fun hg6 => ?_) (fun hg6 => ?_)
       ·
        have hg6' := bne_t hg6
        refine AOps.hg [.run 4] (((((Utf8.decode x k1_).1 : Nat) : Int) != 45)) 42 (fun b_ => [(validM_c2 x k1_), (14, .ref 0), (22, vb true), (25, vb false), (32, vb b_)]) [(validM_c1 x k1_)] 1 (fun hg7 => ?_) (fun hg7 => ?_)
        ·
         have hg7' := bne_t hg7
         refine AOps.hg [.run 3] (decide ((((Utf8.decode x k1_).1 : Nat) : Int) < 48)) 42 (fun b_ => [(validM_c2 x k1_), (14, .ref 0), (22, vb true), (25, vb false), (32, vb true), (35, vb b_)]) [(validM_c1 x k1_)] 1 (fun hg8 => ?_) (fun hg8 => ?_)
         ·
          have hg8' := of_decide_eq_true hg8
          refine AOps.he [.run 6] 42 [(14, .ref 0), (41, vb true)] [(validM_c1 x k1_)] 1 ?_
          exact leZ (by rw [hg4, hg5, hg6, hg7, hg8]; try kernel_rfl)
         ·
          have hg8' := of_decide_eq_false hg8
          refine AOps.he [.run 6] 42 [(14, .ref 0), (41, vb (decide ((((Utf8.decode x k1_).1 : Nat) : Int) > 57)))] [(validM_c1 x k1_)] 1 ?_
          exact leZ (by rw [hg4, hg5, hg6, hg7, hg8]; try kernel_rfl)
        ·
         have hg7' := bne_f hg7
         refine AOps.he [.run 9] 42 [(14, .ref 0), (41, vb false)] [(validM_c1 x k1_)] 1 ?_
         exact leZ (by rw [hg4, hg5, hg6, hg7]; try kernel_rfl)
       ·
        have hg6' := bne_f hg6
        refine AOps.he [.run 13] 42 [(14, .ref 0), (41, vb false)] [(validM_c1 x k1_)] 1 ?_
        exact leZ (by rw [hg4, hg5, hg6]; try kernel_rfl)
     ·
      refine AOps.he [.run 19] 42 [(14, .ref 0), (41, vb false)] [(validM_c1 x k1_)] 1 ?_
      exact leZ (by rw [hg4]; try kernel_rfl)
    ·
     refine AWp.cnd ((!(letterM (((Utf8.decode x k1_).1 : Nat) : Int)) && (((k1_ : Int) == 0) || ((((((Utf8.decode x k1_).1 : Nat) : Int) != 95) && ((((Utf8.decode x k1_).1 : Nat) : Int) != 45)) && (decide ((((Utf8.decode x k1_).1 : Nat) : Int) < 48) || decide ((((Utf8.decode x k1_).1 : Nat) : Int) > 57)))))) (fun h9 => ?_) (fun h9 => ?_)
     ·
      have h9l := and_tl h9
      have h9r := and_tr h9
      refine AWp.hz [.run 1] 42 [(2, vb false)] [] 1 ?_
      refine AWp.ret ?_
      have hL1_ : validM_L1 x = some false := scanR_some hs1_ (by omega) (by unfold validM_B1; (try rw [h3]); (try rw [h9]); try kernel_rfl)
      exact leafR (r := vb false) (by unfold validM; (try rw [h2]); (try rw [hL1_]); try kernel_rfl)
     ·
      refine AWp.skip ?_
      have hw1_ := width_pos x k1_ (by omega)
      exact ⟨k1_ + (Utf8.decode x k1_).2, scanR_none hs1_ (by omega) (by unfold validM_B1; (try rw [h3]); (try rw [h9]); try kernel_rfl), by omega, leG⟩
   ·
    have h3' := of_decide_eq_false h3
    refine AOps.step (by kernel_rfl) ((R_next_end _ rfl (id := 0) (by kernel_rfl) (b := x) (pos := k1_) (by kernel_rfl) (by omega)).step) ?_
    refine AOps.he [.run 1] 42 [(14, .ref 0), (15, .tuple [vb false]), (16, vb false)] [(0, .oth (strIt x k1_))] 1 ?_
    refine AWp.seq ?_
    refine AWp.cndF ?_
    refine AWp.exit ?_
    have hL1_ : validM_L1 x = none := scanR_end hs1_ (by omega)
    refine AWp.hz [.run 1] 42 [(2, vb true)] [] 1 ?_
    refine AWp.ret ?_
    exact leafR (r := vb true) (by unfold validM; (try rw [h2]); (try rw [hL1_]); try kernel_rfl)
def rvalidM_B1 (x : ByteArray) (k1_ : Nat) : Option Bool :=
 (match (x.data.toList)[k1_]? with | some e1_ => (bif (!(decide ((e1_.toNat : Int) ≥ 97) && decide ((e1_.toNat : Int) ≤ 122)) && (((k1_ : Int) == 0) || ((((e1_.toNat : Int) != 95) && ((e1_.toNat : Int) != 45)) && (decide ((e1_.toNat : Int) < 48) || decide ((e1_.toNat : Int) > 57))))) then some false else none) | none => none)
def rvalidM_L1 (x : ByteArray) : Option Bool := scanN (rvalidM_B1 x) 0 x.size
def rvalidM (x : ByteArray) : Bool :=
 (bif (decide ((x.size : Int) < 1) || decide ((x.size : Int) > 24)) then false else (rvalidM_L1 x).getD true)
abbrev rvalidM_c1 (e1_ : UInt8) : Nat × AV := (4, .rv (.v (.int .u8 (e1_.toNat : Int))))
theorem rvalidM_ok (x : ByteArray) :
 ACalls Try.prog G_ 31 [vs x] [] 0 (fun r τ => r = vb (rvalidM x) ∧ τ = []) := by
 refine ACalls.body Try.func31 rfl 51 [(0, vs x)] ?_
 refine AWp.hz [.run 1] 51 [(0, vs x)] [] 0 ?_
 refine AWp.seq ?_
 refine AWp.join (Z 51 [(0, vs x), (13, vb (decide ((x.size : Int) < 1) || decide ((x.size : Int) > 24)))] [] 0) ?_ ?_
 ·
  refine AWp.region ?_
  refine AOps.hg [.run 4] (decide ((x.size : Int) < 1)) 51 (fun b_ => [(0, vs x), (9, vb b_)]) [] 0 (fun hg1 => ?_) (fun hg1 => ?_)
  ·
   have hg1' := of_decide_eq_true hg1
   refine AOps.he [.run 4] 51 [(0, vs x), (13, vb true)] [] 0 ?_
   exact leZ (by rw [hg1]; try kernel_rfl)
  ·
   have hg1' := of_decide_eq_false hg1
   refine AOps.he [.run 4] 51 [(0, vs x), (13, vb (decide ((x.size : Int) > 24)))] [] 0 ?_
   exact leZ (by rw [hg1]; try kernel_rfl)
 ·
  refine AWp.cnd ((decide ((x.size : Int) < 1) || decide ((x.size : Int) > 24))) (fun h2 => ?_) (fun h2 => ?_)
  ·
   refine AWp.hz [.run 1] 51 [(2, vb false)] [] 0 ?_
   refine AWp.ret ?_
   exact leafR (r := vb false) (by unfold rvalidM; (try rw [h2]); try kernel_rfl)
  ·
   have h2l := or_fl h2
   have h2l' := of_decide_eq_false h2l
   have h2r := or_fr h2
   have h2r' := of_decide_eq_false h2r
   refine AWp.skip ?_
   refine AWp.seq ?_
   refine AWp.hz [.run 1] 51 [(0, vs x), (3, vi 0)] [] 0 ?_
   refine AWp.block ?_
   refine AWp.loop (ι := Nat) (fun k1_ => Z 51 [(0, vs x), (3, vi (k1_ : Int))] [] 0) (fun k1_ => k1_ ≤ x.size ∧ rvalidM_L1 x = scanN (rvalidM_B1 x) k1_ (x.size - k1_)) (fun k1_ => x.size - k1_) 0 leZ ⟨Nat.zero_le _, rfl⟩ ?_
   intro k1_ ⟨hk1_, hs1_⟩
   refine AWp.seq ?_
   refine AWp.hz [.run 4] 51 [(0, vs x), (3, vi (k1_ : Int)), (17, vb (decide ((k1_ : Int) < (x.size : Int))))] [] 0 ?_
   refine AWp.cnd (decide ((k1_ : Int) < (x.size : Int))) (fun h3 => ?_) (fun h3 => ?_)
   ·
    have h3' := of_decide_eq_true h3
    refine AWp.skip ?_
    refine AWp.seq ?_
    refine AWp.block ?_
    obtain ⟨e1_, he1_⟩ : ∃ e_, (x.data.toList)[k1_]? = some e_ := byteAt (by omega)
    refine AWp.hz [.run 2, .idxS x k1_ e1_ he1_, .run 1] 51 [(0, vs x), (3, vi (k1_ : Int)), (rvalidM_c1 e1_)] [] 0 ?_
    refine AWp.join (Z 51 [(0, vs x), (3, vi (k1_ : Int)), (4, .rv (.v (.int .u8 (e1_.toNat : Int)))), (5, vb (decide ((e1_.toNat : Int) ≥ 97) && decide ((e1_.toNat : Int) ≤ 122)))] [] 0) ?_ ?_
    ·
     refine AWp.region ?_
     refine AOps.hg [.run 3] (decide ((e1_.toNat : Int) ≥ 97)) 51 (fun b_ => [(0, vs x), (3, vi (k1_ : Int)), (rvalidM_c1 e1_), (25, vb b_)]) [] 0 (fun hg4 => ?_) (fun hg4 => ?_)
     ·
      have hg4' := of_decide_eq_true hg4
      refine AOps.he [.run 4] 51 [(0, vs x), (3, vi (k1_ : Int)), (rvalidM_c1 e1_), (5, vb (decide ((e1_.toNat : Int) ≤ 122)))] [] 0 ?_
      exact leZ (by rw [hg4]; try kernel_rfl)
     ·
      have hg4' := of_decide_eq_false hg4
      refine AOps.he [.run 4] 51 [(0, vs x), (3, vi (k1_ : Int)), (rvalidM_c1 e1_), (5, vb false)] [] 0 ?_
      exact leZ (by rw [hg4]; try kernel_rfl)
    ·
     refine AWp.join (Z 51 [(0, vs x), (3, vi (k1_ : Int)), (50, vb (!(decide ((e1_.toNat : Int) ≥ 97) && decide ((e1_.toNat : Int) ≤ 122)) && (((k1_ : Int) == 0) || ((((e1_.toNat : Int) != 95) && ((e1_.toNat : Int) != 45)) && (decide ((e1_.toNat : Int) < 48) || decide ((e1_.toNat : Int) > 57))))))] [] 0) ?_ ?_
     ·
      refine AWp.region ?_
      refine AOps.hg [.run 3] (!(decide ((e1_.toNat : Int) ≥ 97) && decide ((e1_.toNat : Int) ≤ 122))) 51 (fun b_ => [(0, vs x), (3, vi (k1_ : Int)), (rvalidM_c1 e1_), (31, vb b_)]) [] 0 (fun hg5 => ?_) (fun hg5 => ?_)
      ·
       refine AOps.hg [.run 3] (((k1_ : Int) == 0)) 51 (fun b_ => [(0, vs x), (3, vi (k1_ : Int)), (rvalidM_c1 e1_), (31, vb true), (34, vb b_)]) [] 0 (fun hg6 => ?_) (fun hg6 => ?_)
       ·
        have hg6' := beq_t hg6
        refine AOps.he [.run 16] 51 [(0, vs x), (3, vi (k1_ : Int)), (50, vb true)] [] 0 ?_
        exact leZ (by rw [hg5, hg6]; try kernel_rfl)
       ·
        have hg6' := beq_f hg6
        refine AOps.hg [.run 3] (((e1_.toNat : Int) != 95)) 51 (fun b_ => [(0, vs x), (3, vi (k1_ : Int)), (rvalidM_c1 e1_), (31, vb true), (34, vb false), (37, vb b_)]) [] 0 (fun hg7 => ?_) (fun hg7 => ?_)
        ·
         have hg7' := bne_t hg7
         refine AOps.hg [.run 4] (((e1_.toNat : Int) != 45)) 51 (fun b_ => [(0, vs x), (3, vi (k1_ : Int)), (rvalidM_c1 e1_), (31, vb true), (34, vb false), (41, vb b_)]) [] 0 (fun hg8 => ?_) (fun hg8 => ?_)
         ·
          have hg8' := bne_t hg8
          refine AOps.hg [.run 3] (decide ((e1_.toNat : Int) < 48)) 51 (fun b_ => [(0, vs x), (3, vi (k1_ : Int)), (rvalidM_c1 e1_), (31, vb true), (34, vb false), (41, vb true), (44, vb b_)]) [] 0 (fun hg9 => ?_) (fun hg9 => ?_)
          ·
           have hg9' := of_decide_eq_true hg9
           refine AOps.he [.run 6] 51 [(0, vs x), (3, vi (k1_ : Int)), (50, vb true)] [] 0 ?_
           exact leZ (by rw [hg5, hg6, hg7, hg8, hg9]; try kernel_rfl)
          ·
           have hg9' := of_decide_eq_false hg9
           refine AOps.he [.run 6] 51 [(0, vs x), (3, vi (k1_ : Int)), (50, vb (decide ((e1_.toNat : Int) > 57)))] [] 0 ?_
           exact leZ (by rw [hg5, hg6, hg7, hg8, hg9]; try kernel_rfl)
         ·
          have hg8' := bne_f hg8
          refine AOps.he [.run 9] 51 [(0, vs x), (3, vi (k1_ : Int)), (50, vb false)] [] 0 ?_
          exact leZ (by rw [hg5, hg6, hg7, hg8]; try kernel_rfl)
        ·
         have hg7' := bne_f hg7
         refine AOps.he [.run 13] 51 [(0, vs x), (3, vi (k1_ : Int)), (50, vb false)] [] 0 ?_
         exact leZ (by rw [hg5, hg6, hg7]; try kernel_rfl)
      ·
       refine AOps.he [.run 19] 51 [(0, vs x), (3, vi (k1_ : Int)), (50, vb false)] [] 0 ?_
       exact leZ (by rw [hg5]; try kernel_rfl)
     ·
      refine AWp.cnd ((!(decide ((e1_.toNat : Int) ≥ 97) && decide ((e1_.toNat : Int) ≤ 122)) && (((k1_ : Int) == 0) || ((((e1_.toNat : Int) != 95) && ((e1_.toNat : Int) != 45)) && (decide ((e1_.toNat : Int) < 48) || decide ((e1_.toNat : Int) > 57)))))) (fun h10 => ?_) (fun h10 => ?_)
      ·
       have h10l := and_tl h10
       have h10r := and_tr h10
       refine AWp.hz [.run 1] 51 [(2, vb false)] [] 0 ?_
       refine AWp.ret ?_
       have hL1_ : rvalidM_L1 x = some false := scanN_some hs1_ (by omega) (by unfold rvalidM_B1; (try simp only [he1_]); (try rw [h3]); (try rw [h10]); try kernel_rfl)
       exact leafR (r := vb false) (by unfold rvalidM; (try rw [h2]); (try rw [hL1_]); try kernel_rfl)
      ·
       refine AWp.skip ?_
       refine AWp.he [.run 1, .cast (vi (IntKind.i64.wrap ((k1_ : Int) + 1))) (vi ((k1_ + 1 : Nat) : Int)) (congrArg vi (wrap_nat (by omega))), .run 1] 51 [(0, vs x), (3, vi ((k1_ + 1 : Nat) : Int))] [] 0 ?_
       exact ⟨k1_ + 1, ⟨by omega, scanN_none hs1_ (by omega) (by unfold rvalidM_B1; (try simp only [he1_]); (try rw [h3]); (try rw [h10]); try kernel_rfl)⟩, by omega, leG⟩
   ·
    have h3' := of_decide_eq_false h3
    refine AWp.exit ?_
    have hL1_ : rvalidM_L1 x = none := scanN_end hs1_ (by omega)
    refine AWp.hz [.run 1] 51 [(2, vb true)] [] 0 ?_
    refine AWp.ret ?_
    exact leafR (r := vb true) (by unfold rvalidM; (try rw [h2]); (try rw [hL1_]); try kernel_rfl)
def wideM_B1 (c : Cluster) (k1_ : Nat) : Option Bool :=
 (match (c.commands)[k1_]? with | some e1_ => (bif decide ((e1_.effects.length : Int) > 12) then some true else none) | none => none)
def wideM_L1 (c : Cluster) : Option Bool := scanN (wideM_B1 c) 0 c.commands.length
def wideM (c : Cluster) : Bool :=
 (wideM_L1 c).getD ((decide ((c.attrs.length : Int) > 12) || decide ((c.commands.length : Int) > 12)) || decide ((c.events.length : Int) > 12))
abbrev wideM_c1 (c : Cluster) : Nat × AObj := (0, .box 46 (avs (Cluster.cells c)))
abbrev wideM_c2 (c : Cluster) : Nat × AV := (6, .rv (.sl 9 (c.commands.map Command.cells)))
abbrev wideM_c3 (c : Cluster) : Nat × AV := (7, vi (c.commands.length : Int))
theorem wideM_ok (c : Cluster) :
 ACalls Try.prog G_ 92 [.agg (avs (Cluster.cells c))] [] 0 (fun r τ => r = vb (wideM c) ∧ τ = []) := by
 refine ACalls.body Try.func92 rfl 33 [(0, .agg (avs (Cluster.cells c)))] ?_
 refine AWp.hz [.run 2] 33 [(1, .ptr 0 0)] [(wideM_c1 c)] 1 ?_
 refine AWp.seq ?_
 refine AWp.hzl [.run 2, .len Command.cells c.commands 9, .run 1] 33 [(1, .ptr 0 0), (wideM_c2 c), (wideM_c3 c), (8, vi 0)] [(wideM_c1 c)] 1 (fun hl => ?_)
 obtain ⟨hn1, -⟩ := hl
 refine AWp.block ?_
 refine AWp.loop (ι := Nat) (fun k1_ => Z 33 [(1, .ptr 0 0), (wideM_c2 c), (wideM_c3 c), (8, vi (k1_ : Int))] [(wideM_c1 c)] 1) (fun k1_ => k1_ ≤ c.commands.length ∧ wideM_L1 c = scanN (wideM_B1 c) k1_ (c.commands.length - k1_)) (fun k1_ => c.commands.length - k1_) 0 leZ ⟨Nat.zero_le _, rfl⟩ ?_
 intro k1_ ⟨hk1_, hs1_⟩
 refine AWp.hz [.run 1] 33 [(1, .ptr 0 0), (wideM_c2 c), (wideM_c3 c), (8, vi (k1_ : Int)), (9, vb (decide ((k1_ : Int) < (c.commands.length : Int))))] [(wideM_c1 c)] 1 ?_
 refine AWp.seq ?_
 refine AWp.cnd (decide ((k1_ : Int) < (c.commands.length : Int))) (fun h2 => ?_) (fun h2 => ?_)
 ·
  have h2' := of_decide_eq_true h2
  refine AWp.skip ?_
  refine AWp.seq ?_
  refine AWp.block ?_
  obtain ⟨e1_, he1_⟩ : ∃ e_, (c.commands)[k1_]? = some e_ := ⟨_, List.getElem?_eq_getElem (by omega)⟩
  refine AWp.hz [.idx Command.cells c.commands 9 k1_ e1_ he1_, .run 3] 33 [(1, .ptr 0 0), (4, .ptr 1 0), (wideM_c2 c), (wideM_c3 c), (8, vi (k1_ : Int))] [(1, .box 89 (avs (Command.cells e1_))), (wideM_c1 c)] 2 ?_
  refine AWp.hzl [.run 2, .len Effect.cells e1_.effects 3, .run 1] 33 [(1, .ptr 0 0), (wideM_c2 c), (wideM_c3 c), (8, vi (k1_ : Int)), (15, vb (decide ((e1_.effects.length : Int) > 12)))] [(wideM_c1 c)] 2 (fun hl => ?_)
  obtain ⟨hn3, -⟩ := hl
  refine AWp.cnd (decide ((e1_.effects.length : Int) > 12)) (fun h4 => ?_) (fun h4 => ?_)
  ·
   have h4' := of_decide_eq_true h4
   refine AWp.hz [.run 1] 33 [(2, vb true)] [] 2 ?_
   refine AWp.ret ?_
   have hL1_ : wideM_L1 c = some true := scanN_some hs1_ (by omega) (by unfold wideM_B1; (try simp only [he1_]); (try rw [h2]); (try rw [h4]); try kernel_rfl)
   exact leafR (r := vb true) (by unfold wideM; (try rw [hL1_]); try kernel_rfl)
  ·
   have h4' := of_decide_eq_false h4
   refine AWp.skip ?_
   refine AWp.he [.cast (vi (IntKind.i64.wrap ((k1_ : Int) + 1))) (vi ((k1_ + 1 : Nat) : Int)) (congrArg vi (wrap_nat (by omega))), .run 1] 33 [(1, .ptr 0 0), (wideM_c2 c), (wideM_c3 c), (8, vi ((k1_ + 1 : Nat) : Int))] [(wideM_c1 c)] 2 ?_
   exact ⟨k1_ + 1, ⟨by omega, scanN_none hs1_ (by omega) (by unfold wideM_B1; (try simp only [he1_]); (try rw [h2]); (try rw [h4]); try kernel_rfl)⟩, by omega, leG⟩
 ·
  have h2' := of_decide_eq_false h2
  refine AWp.exit ?_
  have hL1_ : wideM_L1 c = none := scanN_end hs1_ (by omega)
  refine AWp.join (Z 33 [(2, vb ((decide ((c.attrs.length : Int) > 12) || decide ((c.commands.length : Int) > 12)) || decide ((c.events.length : Int) > 12)))] [] 1) ?_ ?_
  ·
   refine AWp.region ?_
   refine AOps.hzl [.run 2, .len Attr.cells c.attrs 7, .run 2] 33 [(1, .ptr 0 0), (21, vb (decide ((c.attrs.length : Int) > 12)))] [(wideM_c1 c)] 1 (fun hl => ?_)
   obtain ⟨hn5, -⟩ := hl
   refine AOps.hg [] (decide ((c.attrs.length : Int) > 12)) 33 (fun b_ => [(1, .ptr 0 0), (21, vb b_)]) [(wideM_c1 c)] 1 (fun hg6 => ?_) (fun hg6 => ?_)
   ·
    have hg6' := of_decide_eq_true hg6
    refine AOps.he [.run 12] 33 [(2, vb true)] [] 1 ?_
    exact leZ (by rw [hg6]; try kernel_rfl)
   ·
    have hg6' := of_decide_eq_false hg6
    refine AOps.hzl [.run 2, .len Command.cells c.commands 9, .run 3] 33 [(1, .ptr 0 0), (27, vb (decide ((c.commands.length : Int) > 12)))] [(wideM_c1 c)] 1 (fun hl => ?_)
    obtain ⟨hn7, -⟩ := hl
    refine AOps.hg [] (decide ((c.commands.length : Int) > 12)) 33 (fun b_ => [(1, .ptr 0 0), (27, vb b_)]) [(wideM_c1 c)] 1 (fun hg8 => ?_) (fun hg8 => ?_)
    ·
     have hg8' := of_decide_eq_true hg8
     refine AOps.he [.run 6] 33 [(2, vb true)] [] 1 ?_
     exact leZ (by rw [hg6, hg8]; try kernel_rfl)
    ·
     have hg8' := of_decide_eq_false hg8
     refine AOps.hel [.run 2, .len strC c.events 1, .run 3] 33 [(2, vb (decide ((c.events.length : Int) > 12)))] [] 1 (fun hl => ?_)
     obtain ⟨hn9, -⟩ := hl
     exact leZ (by rw [hg6, hg8]; try kernel_rfl)
  ·
   refine AWp.ret ?_
   exact leafR (r := vb ((decide ((c.attrs.length : Int) > 12) || decide ((c.commands.length : Int) > 12)) || decide ((c.events.length : Int) > 12))) (by unfold wideM; (try rw [hL1_]); try kernel_rfl)
def membersM_B1 (l : List ByteArray) (k1_ : Nat) : Option Int :=
 (match (l)[k1_]? with | some e1_ => (bif !(validM e1_) then some 10 else (bif decide (nIndexM l e1_ < (k1_ : Int)) then some 9 else none)) | none => none)
def membersM_L1 (l : List ByteArray) : Option Int := scanN (membersM_B1 l) 0 l.length
def membersM (l : List ByteArray) : Int :=
 (bif (decide ((l.length : Int) < 1) || decide ((l.length : Int) > 64)) then 3 else (membersM_L1 l).getD 0)
abbrev membersM_c1 (l : List ByteArray) : Nat × AV := (0, .rv (.sl 1 (l.map strC)))
abbrev membersM_c2 (l : List ByteArray) : Nat × AV := (14, vi (l.length : Int))
theorem membersM_ok (l : List ByteArray) :
 ACalls Try.prog G_ 96 [.rv (.sl 1 (l.map strC))] [] 0 (fun r τ => r = vi (membersM l) ∧ τ = []) := by
 refine ACalls.body Try.func96 rfl 29 [(membersM_c1 l)] ?_
 refine AWp.hz [.run 1] 29 [(membersM_c1 l)] [] 0 ?_
 refine AWp.seq ?_
 refine AWp.join (Z 29 [(0, .rv (.sl 1 (l.map strC))), (12, vb (decide ((l.length : Int) < 1) || decide ((l.length : Int) > 64)))] [] 0) ?_ ?_
 ·
  refine AWp.region ?_
  refine AOps.hzl [.run 1, .len strC l 1, .run 2] 29 [(membersM_c1 l), (8, vb (decide ((l.length : Int) < 1)))] [] 0 (fun hl => ?_)
  obtain ⟨hn1, -⟩ := hl
  refine AOps.hg [] (decide ((l.length : Int) < 1)) 29 (fun b_ => [(membersM_c1 l), (8, vb b_)]) [] 0 (fun hg2 => ?_) (fun hg2 => ?_)
  ·
   have hg2' := of_decide_eq_true hg2
   refine AOps.he [.run 4] 29 [(membersM_c1 l), (12, vb true)] [] 0 ?_
   exact leZ (by rw [hg2]; try kernel_rfl)
  ·
   have hg2' := of_decide_eq_false hg2
   refine AOps.hel [.run 1, .len strC l 1, .run 2] 29 [(membersM_c1 l), (12, vb (decide ((l.length : Int) > 64)))] [] 0 (fun hl => ?_)
   obtain ⟨hn3, -⟩ := hl
   exact leZ (by rw [hg2]; try kernel_rfl)
 ·
  refine AWp.cnd ((decide ((l.length : Int) < 1) || decide ((l.length : Int) > 64))) (fun h4 => ?_) (fun h4 => ?_)
  ·
   refine AWp.hz [.run 1] 29 [(2, vi 3)] [] 0 ?_
   refine AWp.ret ?_
   exact leafR (r := vi 3) (by unfold membersM; (try rw [h4]); try kernel_rfl)
  ·
   have h4l := or_fl h4
   have h4l' := of_decide_eq_false h4l
   have h4r := or_fr h4
   have h4r' := of_decide_eq_false h4r
   refine AWp.skip ?_
   refine AWp.seq ?_
   refine AWp.hzl [.run 1, .len strC l 1, .run 1] 29 [(membersM_c1 l), (13, .rv (.sl 1 (l.map strC))), (membersM_c2 l), (15, vi 0)] [] 0 (fun hl => ?_)
   obtain ⟨hn5, -⟩ := hl
   refine AWp.block ?_
   refine AWp.loop (ι := Nat) (fun k1_ => Z 29 [(membersM_c1 l), (13, .rv (.sl 1 (l.map strC))), (membersM_c2 l), (15, vi (k1_ : Int))] [] 0) (fun k1_ => k1_ ≤ l.length ∧ membersM_L1 l = scanN (membersM_B1 l) k1_ (l.length - k1_)) (fun k1_ => l.length - k1_) 0 leZ ⟨Nat.zero_le _, rfl⟩ ?_
   intro k1_ ⟨hk1_, hs1_⟩
   refine AWp.hz [.run 1] 29 [(membersM_c1 l), (13, .rv (.sl 1 (l.map strC))), (membersM_c2 l), (15, vi (k1_ : Int)), (16, vb (decide ((k1_ : Int) < (l.length : Int))))] [] 0 ?_
   refine AWp.seq ?_
   refine AWp.cnd (decide ((k1_ : Int) < (l.length : Int))) (fun h6 => ?_) (fun h6 => ?_)
   ·
    have h6' := of_decide_eq_true h6
    refine AWp.skip ?_
    refine AWp.seq ?_
    refine AWp.block ?_
    obtain ⟨e1_, he1_⟩ : ∃ e_, (l)[k1_]? = some e_ := ⟨_, List.getElem?_eq_getElem (by omega)⟩
    refine AWp.hz [.run 1, .idx strC l 1 k1_ e1_ he1_, .run 3] 29 [(membersM_c1 l), (3, vi (k1_ : Int)), (4, vs e1_), (13, .rv (.sl 1 (l.map strC))), (membersM_c2 l), (15, vi (k1_ : Int))] [] 0 ?_
    refine AWp.seq ?_
    refine AWp.hz [.run 1, .call 26 [vs e1_] (vb (validM e1_)) [] 0 (validM_ok e1_), .run 1] 29 [(membersM_c1 l), (3, vi (k1_ : Int)), (4, vs e1_), (13, .rv (.sl 1 (l.map strC))), (membersM_c2 l), (15, vi (k1_ : Int)), (22, vb (!(validM e1_)))] [] 0 ?_
    refine AWp.cnd (!(validM e1_)) (fun h7 => ?_) (fun h7 => ?_)
    ·
     refine AWp.hz [.run 1] 29 [(2, vi 10)] [] 0 ?_
     refine AWp.ret ?_
     have hL1_ : membersM_L1 l = some 10 := scanN_some hs1_ (by omega) (by unfold membersM_B1; (try simp only [he1_]); (try rw [h6]); (try rw [h7]); try kernel_rfl)
     exact leafR (r := vi 10) (by unfold membersM; (try rw [h4]); (try rw [hL1_]); try kernel_rfl)
    ·
     refine AWp.skip ?_
     refine AWp.hz [.run 2, .call 84 [.rv (.sl 1 (l.map strC)), vs e1_] (vi (nIndexM l e1_)) [] 0 (nIndexM_ok l e1_), .run 2] 29 [(membersM_c1 l), (13, .rv (.sl 1 (l.map strC))), (membersM_c2 l), (15, vi (k1_ : Int)), (27, vb (decide (nIndexM l e1_ < (k1_ : Int))))] [] 0 ?_
     refine AWp.cnd (decide (nIndexM l e1_ < (k1_ : Int))) (fun h8 => ?_) (fun h8 => ?_)
     ·
      have h8' := of_decide_eq_true h8
      refine AWp.hz [.run 1] 29 [(2, vi 9)] [] 0 ?_
      refine AWp.ret ?_
      have hL1_ : membersM_L1 l = some 9 := scanN_some hs1_ (by omega) (by unfold membersM_B1; (try simp only [he1_]); (try rw [h6]); (try rw [h7]); (try rw [h8]); try kernel_rfl)
      exact leafR (r := vi 9) (by unfold membersM; (try rw [h4]); (try rw [hL1_]); try kernel_rfl)
     ·
      have h8' := of_decide_eq_false h8
      refine AWp.skip ?_
      refine AWp.he [.cast (vi (IntKind.i64.wrap ((k1_ : Int) + 1))) (vi ((k1_ + 1 : Nat) : Int)) (congrArg vi (wrap_nat (by omega))), .run 1] 29 [(membersM_c1 l), (13, .rv (.sl 1 (l.map strC))), (membersM_c2 l), (15, vi ((k1_ + 1 : Nat) : Int))] [] 0 ?_
      exact ⟨k1_ + 1, ⟨by omega, scanN_none hs1_ (by omega) (by unfold membersM_B1; (try simp only [he1_]); (try rw [h6]); (try rw [h7]); (try rw [h8]); try kernel_rfl)⟩, by omega, leG⟩
   ·
    have h6' := of_decide_eq_false h6
    refine AWp.exit ?_
    have hL1_ : membersM_L1 l = none := scanN_end hs1_ (by omega)
    refine AWp.hz [.run 1] 29 [(2, vi 0)] [] 0 ?_
    refine AWp.ret ?_
    exact leafR (r := vi 0) (by unfold membersM; (try rw [h4]); (try rw [hL1_]); try kernel_rfl)
def defM (a : Attr) : Int :=
 (bif !(validM a.name) then 10 else (bif (decide (a.kind < 1) || decide (a.kind > 4)) then 7 else (bif (bif (a.kind == 2) then !((!(inRangeM a.min) || !(inRangeM a.max)) || decide (a.min > a.max)) else !((a.min != 0) || (a.max != 0))) then (bif (a.kind == 3) then membersM a.enum else (bif decide ((a.enum.length : Int) > 0) then 4 else 0)) else 2)))
abbrev defM_c1 (a : Attr) : Nat × AObj := (0, .box 48 (avs (Attr.cells a)))
theorem defM_ok (a : Attr) :
 ACalls Try.prog G_ 93 [.agg (avs (Attr.cells a))] [] 0 (fun r τ => r = vi (defM a) ∧ τ = []) := by
 refine ACalls.body Try.func93 rfl 53 [(0, .agg (avs (Attr.cells a)))] ?_
 refine AWp.hz [.run 2] 53 [(1, .ptr 0 0)] [(defM_c1 a)] 1 ?_
 refine AWp.seq ?_
 refine AWp.hz [.run 2, .call 26 [vs a.name] (vb (validM a.name)) [] 0 (validM_ok a.name), .run 1] 53 [(1, .ptr 0 0), (6, vb (!(validM a.name)))] [(defM_c1 a)] 1 ?_
 refine AWp.cnd (!(validM a.name)) (fun h1 => ?_) (fun h1 => ?_)
 ·
  refine AWp.hz [.run 1] 53 [(2, vi 10)] [] 1 ?_
  refine AWp.ret ?_
  exact leafR (r := vi 10) (by unfold defM; (try rw [h1]); try kernel_rfl)
 ·
  refine AWp.skip ?_
  refine AWp.seq ?_
  refine AWp.join (Z 53 [(1, .ptr 0 0), (14, vb (decide (a.kind < 1) || decide (a.kind > 4)))] [(0, .box 48 (avs (Attr.cells a)))] 1) ?_ ?_
  ·
   refine AWp.region ?_
   refine AOps.hg [.run 4] (decide (a.kind < 1)) 53 (fun b_ => [(1, .ptr 0 0), (10, vb b_)]) [(defM_c1 a)] 1 (fun hg2 => ?_) (fun hg2 => ?_)
   ·
    have hg2' := of_decide_eq_true hg2
    refine AOps.he [.run 4] 53 [(1, .ptr 0 0), (14, vb true)] [(defM_c1 a)] 1 ?_
    exact leZ (by rw [hg2]; try kernel_rfl)
   ·
    have hg2' := of_decide_eq_false hg2
    refine AOps.he [.run 4] 53 [(1, .ptr 0 0), (14, vb (decide (a.kind > 4)))] [(defM_c1 a)] 1 ?_
    exact leZ (by rw [hg2]; try kernel_rfl)
  ·
   refine AWp.cnd ((decide (a.kind < 1) || decide (a.kind > 4))) (fun h3 => ?_) (fun h3 => ?_)
   ·
    refine AWp.hz [.run 1] 53 [(2, vi 7)] [] 1 ?_
    refine AWp.ret ?_
    exact leafR (r := vi 7) (by unfold defM; (try rw [h1]); (try rw [h3]); try kernel_rfl)
   ·
    have h3l := or_fl h3
    have h3l' := of_decide_eq_false h3l
    have h3r := or_fr h3
    have h3r' := of_decide_eq_false h3r
    refine AWp.skip ?_
    refine AWp.joinP (Z 53 [(1, .ptr 0 0)] [(0, .box 48 (avs (Attr.cells a)))] 1) ((bif (a.kind == 2) then !((!(inRangeM a.min) || !(inRangeM a.max)) || decide (a.min > a.max)) else !((a.min != 0) || (a.max != 0))) = true) ?_ (fun hj4 => ?_)
    ·
     refine AWp.hz [.run 3] 53 [(1, .ptr 0 0), (17, vb (a.kind == 2))] [(defM_c1 a)] 1 ?_
     refine AWp.cnd ((a.kind == 2)) (fun h5 => ?_) (fun h5 => ?_)
     ·
      refine AWp.join (Z 53 [(1, .ptr 0 0), (34, vb ((!(inRangeM a.min) || !(inRangeM a.max)) || decide (a.min > a.max)))] [(0, .box 48 (avs (Attr.cells a)))] 1) ?_ ?_
      ·
       refine AWp.region ?_
       refine AOps.hg [.run 2, .call 82 [vi a.min] (vb (inRangeM a.min)) [] 0 (inRangeM_ok a.min), .run 2] (!(inRangeM a.min)) 53 (fun b_ => [(1, .ptr 0 0), (22, vb b_)]) [(defM_c1 a)] 1 (fun hg6 => ?_) (fun hg6 => ?_)
       ·
        refine AOps.he [.run 12] 53 [(1, .ptr 0 0), (34, vb true)] [(defM_c1 a)] 1 ?_
        exact leZ (by rw [hg6]; try kernel_rfl)
       ·
        refine AOps.hg [.run 2, .call 82 [vi a.max] (vb (inRangeM a.max)) [] 0 (inRangeM_ok a.max), .run 3] (!(inRangeM a.max)) 53 (fun b_ => [(1, .ptr 0 0), (28, vb b_)]) [(defM_c1 a)] 1 (fun hg7 => ?_) (fun hg7 => ?_)
        ·
         refine AOps.he [.run 6] 53 [(1, .ptr 0 0), (34, vb true)] [(defM_c1 a)] 1 ?_
         exact leZ (by rw [hg6, hg7]; try kernel_rfl)
        ·
         refine AOps.he [.run 6] 53 [(1, .ptr 0 0), (34, vb (decide (a.min > a.max)))] [(defM_c1 a)] 1 ?_
         exact leZ (by rw [hg6, hg7]; try kernel_rfl)
      ·
       refine AWp.cnd (((!(inRangeM a.min) || !(inRangeM a.max)) || decide (a.min > a.max))) (fun h8 => ?_) (fun h8 => ?_)
       ·
        refine AWp.hz [.run 1] 53 [(2, vi 2)] [] 1 ?_
        refine AWp.ret ?_
        exact leafR (r := vi 2) (by unfold defM; (try rw [h1]); (try rw [h3]); (try rw [h5]); (try rw [h8]); try kernel_rfl)
       ·
        have h8l := or_fl h8
        have h8r := or_fr h8
        have h8r' := of_decide_eq_false h8r
        refine AWp.skip ?_
        exact ⟨leZ, by rw [h5, h8]; try kernel_rfl⟩
     ·
      refine AWp.join (Z 53 [(1, .ptr 0 0), (42, vb ((a.min != 0) || (a.max != 0)))] [(0, .box 48 (avs (Attr.cells a)))] 1) ?_ ?_
      ·
       refine AWp.region ?_
       refine AOps.hg [.run 4] ((a.min != 0)) 53 (fun b_ => [(1, .ptr 0 0), (38, vb b_)]) [(defM_c1 a)] 1 (fun hg9 => ?_) (fun hg9 => ?_)
       ·
        refine AOps.he [.run 4] 53 [(1, .ptr 0 0), (42, vb true)] [(defM_c1 a)] 1 ?_
        exact leZ (by rw [hg9]; try kernel_rfl)
       ·
        refine AOps.he [.run 4] 53 [(1, .ptr 0 0), (42, vb (a.max != 0))] [(defM_c1 a)] 1 ?_
        exact leZ (by rw [hg9]; try kernel_rfl)
      ·
       refine AWp.cnd (((a.min != 0) || (a.max != 0))) (fun h10 => ?_) (fun h10 => ?_)
       ·
        refine AWp.hz [.run 1] 53 [(2, vi 2)] [] 1 ?_
        refine AWp.ret ?_
        exact leafR (r := vi 2) (by unfold defM; (try rw [h1]); (try rw [h3]); (try rw [h5]); (try rw [h10]); try kernel_rfl)
       ·
        have h10l := or_fl h10
        have h10r := or_fr h10
        refine AWp.skip ?_
        exact ⟨leZ, by rw [h5, h10]; try kernel_rfl⟩
    ·
     refine AWp.seq ?_
     refine AWp.hz [.run 3] 53 [(1, .ptr 0 0), (45, vb (a.kind == 3))] [(defM_c1 a)] 1 ?_
     refine AWp.cnd ((a.kind == 3)) (fun h11 => ?_) (fun h11 => ?_)
     ·
      refine AWp.hz [.run 2, .call 96 [.rv (.sl 1 (a.enum.map strC))] (vi (membersM a.enum)) [] 0 (membersM_ok a.enum), .run 1] 53 [(2, vi (membersM a.enum))] [] 1 ?_
      refine AWp.ret ?_
      exact leafR (r := vi (membersM a.enum)) (by unfold defM; (try rw [h1]); (try rw [h3]); (try rw [hj4]); (try rw [h11]); try kernel_rfl)
     ·
      refine AWp.skip ?_
      refine AWp.seq ?_
      refine AWp.hzl [.run 2, .len strC a.enum 1, .run 1] 53 [(52, vb (decide ((a.enum.length : Int) > 0)))] [] 1 (fun hl => ?_)
      obtain ⟨hn12, -⟩ := hl
      refine AWp.cnd (decide ((a.enum.length : Int) > 0)) (fun h13 => ?_) (fun h13 => ?_)
      ·
       have h13' := of_decide_eq_true h13
       refine AWp.hz [.run 1] 53 [(2, vi 4)] [] 1 ?_
       refine AWp.ret ?_
       exact leafR (r := vi 4) (by unfold defM; (try rw [h1]); (try rw [h3]); (try rw [hj4]); (try rw [h11]); (try rw [h13]); try kernel_rfl)
      ·
       have h13' := of_decide_eq_false h13
       refine AWp.skip ?_
       refine AWp.hz [.run 1] 53 [(2, vi 0)] [] 1 ?_
       refine AWp.ret ?_
       exact leafR (r := vi 0) (by unfold defM; (try rw [h1]); (try rw [h3]); (try rw [hj4]); (try rw [h11]); (try rw [h13]); try kernel_rfl)
def fitsM (a : Attr) (v : Val) : Int :=
 (bif (defM a != 0) then defM a else (bif (vCheckM v != 0) then vCheckM v else (bif (v.kind != a.kind) then 11 else (bif (((v.kind == 2) && (decide (v.n < a.min) || decide (v.n > a.max))) || ((v.kind == 3) && decide (v.n ≥ (a.enum.length : Int)))) then 2 else 0))))
abbrev fitsM_c1 (a : Attr) : Nat × AObj := (0, .box 48 (avs (Attr.cells a)))
abbrev fitsM_c2 (v : Val) : Nat × AObj := (1, .box 53 (avs (Val.cells v)))
theorem fitsM_ok (a : Attr) (v : Val) :
 ACalls Try.prog G_ 101 [.agg (avs (Attr.cells a)), .agg (avs (Val.cells v))] [] 0 (fun r τ => r = vi (fitsM a v) ∧ τ = []) := by
 refine ACalls.body Try.func101 rfl 52 [(0, .agg (avs (Attr.cells a))), (1, .agg (avs (Val.cells v)))] ?_
 refine AWp.hz [.run 3] 52 [(2, .ptr 0 0), (3, .ptr 1 0)] [(fitsM_c2 v), (fitsM_c1 a)] 2 ?_
 refine AWp.seq ?_
 refine AWp.hz [.run 1, .call 93 [.agg (avs (Attr.cells a))] (vi (defM a)) [] 0 (defM_ok a), .run 1] 52 [(2, .ptr 0 0), (3, .ptr 1 0), (5, vi (defM a))] [(fitsM_c2 v), (fitsM_c1 a)] 2 ?_
 refine AWp.hz [.run 2] 52 [(2, .ptr 0 0), (3, .ptr 1 0), (5, vi (defM a)), (10, vb (defM a != 0))] [(fitsM_c2 v), (fitsM_c1 a)] 2 ?_
 refine AWp.cnd ((defM a != 0)) (fun h1 => ?_) (fun h1 => ?_)
 ·
  refine AWp.hz [.run 2] 52 [(4, vi (defM a))] [] 2 ?_
  refine AWp.ret ?_
  exact leafR (r := vi (defM a)) (by unfold fitsM; (try rw [h1]); try kernel_rfl)
 ·
  refine AWp.skip ?_
  refine AWp.seq ?_
  refine AWp.hz [.run 1, .call 71 [.agg (avs (Val.cells v))] (vi (vCheckM v)) [] 0 (vCheckM_ok v), .run 1] 52 [(2, .ptr 0 0), (3, .ptr 1 0), (6, vi (vCheckM v))] [(fitsM_c2 v), (fitsM_c1 a)] 2 ?_
  refine AWp.hz [.run 2] 52 [(2, .ptr 0 0), (3, .ptr 1 0), (6, vi (vCheckM v)), (15, vb (vCheckM v != 0))] [(fitsM_c2 v), (fitsM_c1 a)] 2 ?_
  refine AWp.cnd ((vCheckM v != 0)) (fun h2 => ?_) (fun h2 => ?_)
  ·
   refine AWp.hz [.run 2] 52 [(4, vi (vCheckM v))] [] 2 ?_
   refine AWp.ret ?_
   exact leafR (r := vi (vCheckM v)) (by unfold fitsM; (try rw [h1]); (try rw [h2]); try kernel_rfl)
  ·
   refine AWp.skip ?_
   refine AWp.seq ?_
   refine AWp.block ?_
   refine AWp.hz [.run 6] 52 [(2, .ptr 0 0), (3, .ptr 1 0), (17, vb (v.kind != a.kind))] [(fitsM_c2 v), (fitsM_c1 a)] 2 ?_
   refine AWp.cnd ((v.kind != a.kind)) (fun h3 => ?_) (fun h3 => ?_)
   ·
    refine AWp.hz [.run 1] 52 [(4, vi 11)] [] 2 ?_
    refine AWp.ret ?_
    exact leafR (r := vi 11) (by unfold fitsM; (try rw [h1]); (try rw [h2]); (try rw [h3]); try kernel_rfl)
   ·
    refine AWp.join (Z 52 [(23, vb (((v.kind == 2) && (decide (v.n < a.min) || decide (v.n > a.max))) || ((v.kind == 3) && decide (v.n ≥ (a.enum.length : Int)))))] [] 2) ?_ ?_
    ·
     refine AWp.join (Z 52 [(2, .ptr 0 0), (3, .ptr 1 0), (23, vb ((v.kind == 2) && (decide (v.n < a.min) || decide (v.n > a.max))))] [(1, .box 53 (avs (Val.cells v))), (0, .box 48 (avs (Attr.cells a)))] 2) ?_ ?_
     ·
      refine AWp.region ?_
      refine AOps.hg [.run 4] ((v.kind == 2)) 52 (fun b_ => [(2, .ptr 0 0), (3, .ptr 1 0), (27, vb b_)]) [(fitsM_c2 v), (fitsM_c1 a)] 2 (fun hg4 => ?_) (fun hg4 => ?_)
      ·
       refine AOps.hg [.run 6] (decide (v.n < a.min)) 52 (fun b_ => [(2, .ptr 0 0), (3, .ptr 1 0), (27, vb true), (33, vb b_)]) [(fitsM_c2 v), (fitsM_c1 a)] 2 (fun hg5 => ?_) (fun hg5 => ?_)
       ·
        have hg5' := of_decide_eq_true hg5
        refine AOps.he [.run 8] 52 [(2, .ptr 0 0), (3, .ptr 1 0), (23, vb true)] [(fitsM_c2 v), (fitsM_c1 a)] 2 ?_
        exact leZ (by rw [hg4, hg5]; try kernel_rfl)
       ·
        have hg5' := of_decide_eq_false hg5
        refine AOps.he [.run 8] 52 [(2, .ptr 0 0), (3, .ptr 1 0), (23, vb (decide (v.n > a.max)))] [(fitsM_c2 v), (fitsM_c1 a)] 2 ?_
        exact leZ (by rw [hg4, hg5]; try kernel_rfl)
      ·
       refine AOps.he [.run 14] 52 [(2, .ptr 0 0), (3, .ptr 1 0), (23, vb false)] [(fitsM_c2 v), (fitsM_c1 a)] 2 ?_
       exact leZ (by rw [hg4]; try kernel_rfl)
     ·
      refine AWp.cnd (((v.kind == 2) && (decide (v.n < a.min) || decide (v.n > a.max)))) (fun h6 => ?_) (fun h6 => ?_)
      ·
       have h6l := and_tl h6
       have h6r := and_tr h6
       refine AWp.skip ?_
       exact leZ (by rw [h6]; try kernel_rfl)
      ·
       refine AWp.region ?_
       refine AOps.hg [.run 4] ((v.kind == 3)) 52 (fun b_ => [(2, .ptr 0 0), (3, .ptr 1 0), (44, vb b_)]) [(fitsM_c2 v), (fitsM_c1 a)] 2 (fun hg7 => ?_) (fun hg7 => ?_)
       ·
        refine AOps.hel [.run 4, .len strC a.enum 1, .run 3] 52 [(23, vb (decide (v.n ≥ (a.enum.length : Int))))] [] 2 (fun hl => ?_)
        obtain ⟨hn8, -⟩ := hl
        exact leZ (by rw [h6, hg7]; try kernel_rfl)
       ·
        refine AOps.he [.run 8] 52 [(23, vb false)] [] 2 ?_
        exact leZ (by rw [h6, hg7]; try kernel_rfl)
    ·
     refine AWp.cnd ((((v.kind == 2) && (decide (v.n < a.min) || decide (v.n > a.max))) || ((v.kind == 3) && decide (v.n ≥ (a.enum.length : Int))))) (fun h9 => ?_) (fun h9 => ?_)
     ·
      refine AWp.hz [.run 1] 52 [(4, vi 2)] [] 2 ?_
      refine AWp.ret ?_
      exact leafR (r := vi 2) (by unfold fitsM; (try rw [h1]); (try rw [h2]); (try rw [h3]); (try rw [h9]); try kernel_rfl)
     ·
      have h9l := or_fl h9
      have h9r := or_fr h9
      refine AWp.skip ?_
      refine AWp.hz [.run 1] 52 [(4, vi 0)] [] 2 ?_
      refine AWp.ret ?_
      exact leafR (r := vi 0) (by unfold fitsM; (try rw [h1]); (try rw [h2]); (try rw [h3]); (try rw [h9]); try kernel_rfl)
end Go.Proofs.Ytnnlaccdendkpaa
