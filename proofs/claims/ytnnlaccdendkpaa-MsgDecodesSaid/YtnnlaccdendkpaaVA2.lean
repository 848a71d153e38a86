/- Functions with loops over lists: the contracts. -/
import Derived.Test.YtnnlaccdendkpaaVA1
namespace Go.Proofs.Ytnnlaccdendkpaa
open Go Go.Av Go.Hh Go.Proofs
set_option maxRecDepth 100000
set_option maxHeartbeats 4000000
def sIndexM_B1 (l : List ByteArray) (x : ByteArray) (k1_ : Nat) : Option Int :=
 (match (l)[k1_]? with | some e1_ => (bif beqS x e1_ then some (k1_ : Int) else none) | none => none)
def sIndexM_L1 (l : List ByteArray) (x : ByteArray) : Option Int := scanN (sIndexM_B1 l x) 0 l.length
def sIndexM (l : List ByteArray) (x : ByteArray) : Int :=
 (sIndexM_L1 l x).getD (-1)
abbrev sIndexM_c1 (l : List ByteArray) : Nat × AV := (0, .rv (.sl 1 (l.map strC)))
theorem sIndexM_ok (l : List ByteArray) (x : ByteArray) :
 ACalls Try.prog G_ 89 [.rv (.sl 1 (l.map strC)), vs x] [] 0 (fun r τ => r = vi (sIndexM l x) ∧ τ = []) := by
 refine ACalls.body Try.func89 rfl 19 [(sIndexM_c1 l), (1, vs x)] ?_
 refine AWp.hz [.run 1] 19 [(sIndexM_c1 l), (1, vs x)] [] 0 ?_
 refine AWp.seq ?_
 refine AWp.hzl [.run 1, .len strC l 1, .run 1] 19 [(sIndexM_c1 l), (1, vs x), (7, vi (l.length : Int)), (8, vi 0)] [] 0 (fun hl => ?_)
 obtain ⟨hn1, -⟩ := hl
 refine AWp.block ?_
 refine AWp.loop (ι := Nat) (fun k1_ => Z 19 [(sIndexM_c1 l), (1, vs x), (7, vi (l.length : Int)), (8, vi (k1_ : Int))] [] 0) (fun k1_ => k1_ ≤ l.length ∧ sIndexM_L1 l x = scanN (sIndexM_B1 l x) k1_ (l.length - k1_)) (fun k1_ => l.length - k1_) 0 leZ ⟨Nat.zero_le _, rfl⟩ ?_
 intro k1_ ⟨hk1_, hs1_⟩
 refine AWp.hz [.run 1] 19 [(sIndexM_c1 l), (1, vs x), (7, vi (l.length : Int)), (8, vi (k1_ : Int)), (9, vb (decide ((k1_ : Int) < (l.length : Int))))] [] 0 ?_
 refine AWp.seq ?_
 refine AWp.cnd (decide ((k1_ : Int) < (l.length : Int))) (fun h2 => ?_) (fun h2 => ?_)
 ·
  have h2' := of_decide_eq_true h2
  refine AWp.skip ?_
  refine AWp.seq ?_
  refine AWp.block ?_
  refine AWp.hz [.run 2] 19 [(sIndexM_c1 l), (1, vs x), (5, vi (k1_ : Int)), (7, vi (l.length : Int)), (8, vi (k1_ : Int))] [] 0 ?_
  obtain ⟨e1_, he1_⟩ : ∃ e_, (l)[k1_]? = some e_ := ⟨_, List.getElem?_eq_getElem (by omega)⟩
  refine AWp.hz [.run 3, .idx strC l 1 k1_ e1_ he1_, .run 2] 19 [(sIndexM_c1 l), (1, vs x), (5, vi (k1_ : Int)), (7, vi (l.length : Int)), (8, vi (k1_ : Int)), (16, vb (beqS x e1_))] [] 0 ?_
  refine AWp.cnd (beqS x e1_) (fun h3 => ?_) (fun h3 => ?_)
  ·
   refine AWp.hz [.run 2] 19 [(4, vi (k1_ : Int))] [] 0 ?_
   refine AWp.ret ?_
   have hL1_ : sIndexM_L1 l x = some (k1_ : Int) := scanN_some hs1_ (by omega) (by unfold sIndexM_B1; (try simp only [he1_]); (try rw [h2]); (try rw [h3]); try kernel_rfl)
   exact leafR (r := vi (k1_ : Int)) (by unfold sIndexM; (try rw [hL1_]); try kernel_rfl)
  ·
   refine AWp.skip ?_
   refine AWp.he [.cast (vi (IntKind.i64.wrap ((k1_ : Int) + 1))) (vi ((k1_ + 1 : Nat) : Int)) (congrArg vi (wrap_nat (by omega))), .run 1] 19 [(sIndexM_c1 l), (1, vs x), (7, vi (l.length : Int)), (8, vi ((k1_ + 1 : Nat) : Int))] [] 0 ?_
   exact ⟨k1_ + 1, ⟨by omega, scanN_none hs1_ (by omega) (by unfold sIndexM_B1; (try simp only [he1_]); (try rw [h2]); (try rw [h3]); try kernel_rfl)⟩, by omega, leG⟩
 ·
  have h2' := of_decide_eq_false h2
  refine AWp.exit ?_
  have hL1_ : sIndexM_L1 l x = none := scanN_end hs1_ (by omega)
  refine AWp.hz [.run 1] 19 [(4, vi (-1))] [] 0 ?_
  refine AWp.ret ?_
  exact leafR (r := vi (-1)) (by unfold sIndexM; (try rw [hL1_]); try kernel_rfl)
def sContM (l : List ByteArray) (x : ByteArray) : Bool :=
 decide (sIndexM l x ≥ 0)
theorem sContM_ok (l : List ByteArray) (x : ByteArray) :
 ACalls Try.prog G_ 95 [.rv (.sl 1 (l.map strC)), vs x] [] 0 (fun r τ => r = vb (sContM l x) ∧ τ = []) := by
 refine ACalls.body Try.func95 rfl 9 [(0, .rv (.sl 1 (l.map strC))), (1, vs x)] ?_
 refine AWp.hz [.run 1] 9 [(0, .rv (.sl 1 (l.map strC))), (1, vs x)] [] 0 ?_
 refine AWp.hz [.run 2, .call 89 [.rv (.sl 1 (l.map strC)), vs x] (vi (sIndexM l x)) [] 0 (sIndexM_ok l x), .run 2] 9 [(4, vb (decide (sIndexM l x ≥ 0)))] [] 0 ?_
 refine AWp.ret ?_
 exact leafR (r := vb (decide (sIndexM l x ≥ 0))) (by unfold sContM; try kernel_rfl)
def sEqualM_B1 (l m : List ByteArray) (k1_ : Nat) : Option Bool :=
 (match (l)[k1_]? with | some e1_ => (match (m)[k1_]? with | some e2_ => (bif !beqS e1_ e2_ then some false else none) | none => none) | none => none)
def sEqualM_L1 (l m : List ByteArray) : Option Bool := scanN (sEqualM_B1 l m) 0 l.length
def sEqualM (l m : List ByteArray) : Bool :=
 (bif ((l.length : Int) != (m.length : Int)) then false else (sEqualM_L1 l m).getD true)
abbrev sEqualM_c1 (l : List ByteArray) : Nat × AV := (0, .rv (.sl 1 (l.map strC)))
abbrev sEqualM_c2 (m : List ByteArray) : Nat × AV := (1, .rv (.sl 1 (m.map strC)))
theorem sEqualM_ok (l m : List ByteArray) :
 ACalls Try.prog G_ 103 [.rv (.sl 1 (l.map strC)), .rv (.sl 1 (m.map strC))] [] 0 (fun r τ => r = vb (sEqualM l m) ∧ τ = []) := by
 refine ACalls.body Try.func103 rfl 26 [(sEqualM_c1 l), (sEqualM_c2 m)] ?_
 refine AWp.hz [.run 1] 26 [(sEqualM_c1 l), (sEqualM_c2 m)] [] 0 ?_
 refine AWp.seq ?_
 refine AWp.hzl [.run 1, .len strC l 1, .run 1, .len strC m 1, .run 1] 26 [(sEqualM_c1 l), (sEqualM_c2 m), (10, vb ((l.length : Int) != (m.length : Int)))] [] 0 (fun hl => ?_)
 obtain ⟨hn1, hn2, -⟩ := hl
 refine AWp.cnd (((l.length : Int) != (m.length : Int))) (fun h3 => ?_) (fun h3 => ?_)
 ·
  have h3' := bne_t h3
  refine AWp.hz [.run 1] 26 [(4, vb false)] [] 0 ?_
  refine AWp.ret ?_
  exact leafR (r := vb false) (by unfold sEqualM; (try rw [h3]); try kernel_rfl)
 ·
  have h3' := bne_f h3
  refine AWp.skip ?_
  refine AWp.seq ?_
  refine AWp.hzl [.run 1, .len strC l 1, .run 1] 26 [(sEqualM_c1 l), (sEqualM_c2 m), (12, vi (l.length : Int)), (13, vi 0)] [] 0 (fun hl => ?_)
  obtain ⟨hn4, -⟩ := hl
  refine AWp.block ?_
  refine AWp.loop (ι := Nat) (fun k1_ => Z 26 [(sEqualM_c1 l), (sEqualM_c2 m), (12, vi (l.length : Int)), (13, vi (k1_ : Int))] [] 0) (fun k1_ => k1_ ≤ l.length ∧ sEqualM_L1 l m = scanN (sEqualM_B1 l m) k1_ (l.length - k1_)) (fun k1_ => l.length - k1_) 0 leZ ⟨Nat.zero_le _, rfl⟩ ?_
  intro k1_ ⟨hk1_, hs1_⟩
  refine AWp.hz [.run 1] 26 [(sEqualM_c1 l), (sEqualM_c2 m), (12, vi (l.length : Int)), (13, vi (k1_ : Int)), (14, vb (decide ((k1_ : Int) < (l.length : Int))))] [] 0 ?_
  refine AWp.seq ?_
  refine AWp.cnd (decide ((k1_ : Int) < (l.length : Int))) (fun h5 => ?_) (fun h5 => ?_)
  ·
   have h5' := of_decide_eq_true h5
   refine AWp.skip ?_
   refine AWp.seq ?_
   refine AWp.block ?_
   refine AWp.hz [.run 2] 26 [(sEqualM_c1 l), (sEqualM_c2 m), (5, vi (k1_ : Int)), (12, vi (l.length : Int)), (13, vi (k1_ : Int))] [] 0 ?_
   obtain ⟨e1_, he1_⟩ : ∃ e_, (l)[k1_]? = some e_ := ⟨_, List.getElem?_eq_getElem (by omega)⟩
   obtain ⟨e2_, he2_⟩ : ∃ e_, (m)[k1_]? = some e_ := ⟨_, List.getElem?_eq_getElem (by omega)⟩
   refine AWp.dz [.rv (.sl 1 (l.map strC)), vi (k1_ : Int), .rv (.ptr (strC e1_)), vs e1_, .rv (.sl 1 (m.map strC)), vi (k1_ : Int), .rv (.ptr (strC e2_)), vs e2_, vb (!beqS e1_ e2_)] 26 [(sEqualM_c1 l), (sEqualM_c2 m), (12, vi (l.length : Int)), (13, vi (k1_ : Int)), (24, vb (!beqS e1_ e2_))] [] 0 ?_ ?_
   ·
    refine DSteps.cons (DStep.va) ?_
    refine DSteps.cons (DStep.va) ?_
    refine DSteps.cons (DStep.vs (by kernel_rfl) (R_indexAddrM strC l 1 k1_ rfl (by kernel_rfl) (by kernel_rfl) (by kernel_rfl) he1_)) ?_
    refine DSteps.cons (DStep.va) ?_
    refine DSteps.cons (DStep.va) ?_
    refine DSteps.cons (DStep.va) ?_
    refine DSteps.cons (DStep.vs (by kernel_rfl) (R_indexAddrM strC m 1 k1_ rfl (by kernel_rfl) (by kernel_rfl) (by kernel_rfl) he2_)) ?_
    refine DSteps.cons (DStep.va) ?_
    refine DSteps.cons (DStep.va) ?_
    exact DSteps.nl
   refine AWp.cnd (!beqS e1_ e2_) (fun h6 => ?_) (fun h6 => ?_)
   ·
    refine AWp.hz [.run 1] 26 [(4, vb false)] [] 0 ?_
    refine AWp.ret ?_
    have hL1_ : sEqualM_L1 l m = some false := scanN_some hs1_ (by omega) (by unfold sEqualM_B1; (try simp only [he1_]); (try simp only [he2_]); (try rw [h5]); (try rw [h6]); try kernel_rfl)
    exact leafR (r := vb false) (by unfold sEqualM; (try rw [h3]); (try rw [hL1_]); try kernel_rfl)
   ·
    refine AWp.skip ?_
    refine AWp.he [.cast (vi (IntKind.i64.wrap ((k1_ : Int) + 1))) (vi ((k1_ + 1 : Nat) : Int)) (congrArg vi (wrap_nat (by omega))), .run 1] 26 [(sEqualM_c1 l), (sEqualM_c2 m), (12, vi (l.length : Int)), (13, vi ((k1_ + 1 : Nat) : Int))] [] 0 ?_
    exact ⟨k1_ + 1, ⟨by omega, scanN_none hs1_ (by omega) (by unfold sEqualM_B1; (try simp only [he1_]); (try simp only [he2_]); (try rw [h5]); (try rw [h6]); try kernel_rfl)⟩, by omega, leG⟩
  ·
   have h5' := of_decide_eq_false h5
   refine AWp.exit ?_
   have hL1_ : sEqualM_L1 l m = none := scanN_end hs1_ (by omega)
   refine AWp.hz [.run 1] 26 [(4, vb true)] [] 0 ?_
   refine AWp.ret ?_
   exact leafR (r := vb true) (by unfold sEqualM; (try rw [h3]); (try rw [hL1_]); try kernel_rfl)
def nIndexM (l : List ByteArray) (x : ByteArray) : Int :=
 sIndexM l x
theorem nIndexM_ok (l : List ByteArray) (x : ByteArray) :
 ACalls Try.prog G_ 84 [.rv (.sl 1 (l.map strC)), vs x] [] 0 (fun r τ => r = vi (nIndexM l x) ∧ τ = []) := by
 refine ACalls.body Try.func84 rfl 8 [(0, .rv (.sl 1 (l.map strC))), (1, vs x)] ?_
 refine AWp.hz [.run 1] 8 [(0, .rv (.sl 1 (l.map strC))), (1, vs x)] [] 0 ?_
 refine AWp.hz [.run 2, .call 89 [.rv (.sl 1 (l.map strC)), vs x] (vi (sIndexM l x)) [] 0 (sIndexM_ok l x), .run 1] 8 [(4, vi (sIndexM l x))] [] 0 ?_
 refine AWp.ret ?_
 exact leafR (r := vi (sIndexM l x)) (by unfold nIndexM; try kernel_rfl)
end Go.Proofs.Ytnnlaccdendkpaa
