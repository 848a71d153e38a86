/- Vendor: owners, numbers. -/
import Derived.Test.YtmjimhkbehoomaaUB4
namespace Go.Proofs.Ytmjimhkbehoomaa
open Go Go.Av Go.Hh Go.Proofs
set_option maxRecDepth 100000
set_option maxHeartbeats 4000000
def owns1M (d : Dev) (n v : Int) : Bool :=
  ((d.id == n) && (d.vendor == v))
theorem owns1M_ok (d : Dev) (n v : Int) :
 ACalls Try.prog G_ 53 [.agg (avs (Dev.cells d)), .rv (.ptr [.v (.int .i64 n)]), .rv (.ptr [.v (.int .i64 v)])] [] 0 (fun r τ => r = vb (owns1M d n v) ∧ τ = []) := by
 refine ACalls.body Try.func53 rfl 15 [(0, .agg (avs (Dev.cells d))), (1, .rv (.ptr [.v (.int .i64 n)])), (2, .rv (.ptr [.v (.int .i64 v)]))] ?_
 refine AWp.hz [.run 2] 15 [(1, .rv (.ptr [.v (.int .i64 n)])), (2, .rv (.ptr [.v (.int .i64 v)])), (3, .ptr 0 0)] [(0, .box 61 (avs (Dev.cells d)))] 1 ?_
 refine AWp.join (Z 15 [(4, vb ((d.id == n) && (d.vendor == v)))] [] 1) ?_ ?_
 ·
  refine AWp.region ?_
  refine AOps.hg [.run 5] ((d.id == n)) 15 (fun b_ => [(2, .rv (.ptr [.v (.int .i64 v)])), (3, .ptr 0 0), (9, vb b_)]) [(0, .box 61 (avs (Dev.cells d)))] 1 (fun hg1 => ?_) (fun hg1 => ?_)
  ·
   refine AOps.he [.run 6] 15 [(4, vb (d.vendor == v))] [] 1 ?_
   exact leZ (by rw [hg1]; first | done | kernel_rfl)
  ·
   refine AOps.he [.run 6] 15 [(4, vb false)] [] 1 ?_
   exact leZ (by rw [hg1]; first | done | kernel_rfl)
 ·
  refine AWp.ret ?_
  exact leafR (r := vb ((d.id == n) && (d.vendor == v))) (by unfold owns1M; first | done | kernel_rfl)
def ixOwnM_B1 (l : List Dev) (n v : Int) (k1_ : Nat) : Option Int :=
  (match (l)[k1_]? with | some e1_ => (bif owns1M e1_ n v then some ((k1_ : Nat) : Int) else none) | none => none)
def ixOwnM_L1 (l : List Dev) (n v : Int) : Option Int := scanN (ixOwnM_B1 l n v) 0 l.length
def ixOwnM (l : List Dev) (n v : Int) : Int :=
  (ixOwnM_L1 l n v).getD (-1)
theorem ixOwnM_ok (l : List Dev) (n v : Int) :
 ACalls Try.prog G_ 73 [.rv (.sl 7 (l.map Dev.cells)), .fn (.func 53) [] [.rv (.ptr [.v (.int .i64 n)]), .rv (.ptr [.v (.int .i64 v)])]] [] 0 (fun r τ => r = vi (ixOwnM l n v) ∧ τ = []) := by
 refine ACalls.body Try.func73 rfl 19 [(0, .rv (.sl 7 (l.map Dev.cells))), (1, .fn (.func 53) [] [.rv (.ptr [.v (.int .i64 n)]), .rv (.ptr [.v (.int .i64 v)])])] ?_
 refine AWp.hz [.run 1] 19 [(0, .rv (.sl 7 (l.map Dev.cells))), (1, .fn (.func 53) [] [.rv (.ptr [.v (.int .i64 n)]), .rv (.ptr [.v (.int .i64 v)])])] [] 0 ?_
 refine AWp.seq ?_
 refine AWp.hzl [.run 1, .len Dev.cells l 7, .run 1] 19 [(0, .rv (.sl 7 (l.map Dev.cells))), (1, .fn (.func 53) [] [.rv (.ptr [.v (.int .i64 n)]), .rv (.ptr [.v (.int .i64 v)])]), (7, vi ((l.length : Nat) : Int)), (8, vi 0)] [] 0 (fun hl => ?_)
 obtain ⟨hn1, -⟩ := hl
 refine AWp.block ?_
 refine AWp.loop (ι := Nat) (fun k1_ => Z 19 [(0, .rv (.sl 7 (l.map Dev.cells))), (1, .fn (.func 53) [] [.rv (.ptr [.v (.int .i64 n)]), .rv (.ptr [.v (.int .i64 v)])]), (7, vi ((l.length : Nat) : Int)), (8, vi ((k1_ : Nat) : Int))] [] 0) (fun k1_ => k1_ ≤ l.length ∧ ixOwnM_L1 l n v = scanN (ixOwnM_B1 l n v) k1_ (l.length - k1_)) (fun k1_ => l.length - k1_) 0 leZ ⟨Nat.zero_le _, rfl⟩ ?_
 intro k1_ ⟨hk1_, hs1_⟩
 refine AWp.hz [.run 1] 19 [(0, .rv (.sl 7 (l.map Dev.cells))), (1, .fn (.func 53) [] [.rv (.ptr [.v (.int .i64 n)]), .rv (.ptr [.v (.int .i64 v)])]), (7, vi ((l.length : Nat) : Int)), (8, vi ((k1_ : Nat) : Int)), (9, vb (decide (((k1_ : Nat) : Int) < ((l.length : Nat) : Int))))] [] 0 ?_
 refine AWp.seq ?_
 refine AWp.cnd (decide (((k1_ : Nat) : Int) < ((l.length : Nat) : Int))) (fun h2 => ?_) (fun h2 => ?_)
 ·
  have h2' := of_decide_eq_true h2
  refine AWp.skip ?_
  refine AWp.seq ?_
  refine AWp.block ?_
  refine AWp.hz [.run 2] 19 [(0, .rv (.sl 7 (l.map Dev.cells))), (1, .fn (.func 53) [] [.rv (.ptr [.v (.int .i64 n)]), .rv (.ptr [.v (.int .i64 v)])]), (5, vi ((k1_ : Nat) : Int)), (7, vi ((l.length : Nat) : Int)), (8, vi ((k1_ : Nat) : Int))] [] 0 ?_
  obtain ⟨e1_, he1_⟩ := getEx (l := l) (j := k1_) (by omega)
  refine AWp.hz [.run 3, .idx Dev.cells l 7 k1_ e1_ he1_, .run 1, .callB 53 [] [.rv (.ptr [.v (.int .i64 n)]), .rv (.ptr [.v (.int .i64 v)])] [.agg (avs (Dev.cells e1_)), .rv (.ptr [.v (.int .i64 n)]), .rv (.ptr [.v (.int .i64 v)])] (vb (owns1M e1_ n v)) (owns1M_ok e1_ n v)] 19 [(0, .rv (.sl 7 (l.map Dev.cells))), (1, .fn (.func 53) [] [.rv (.ptr [.v (.int .i64 n)]), .rv (.ptr [.v (.int .i64 v)])]), (5, vi ((k1_ : Nat) : Int)), (7, vi ((l.length : Nat) : Int)), (8, vi ((k1_ : Nat) : Int)), (16, vb (owns1M e1_ n v))] [] 0 ?_
  refine AWp.cnd (owns1M e1_ n v) (fun h3 => ?_) (fun h3 => ?_)
  ·
   refine AWp.hz [.run 2] 19 [(4, vi ((k1_ : Nat) : Int))] [] 0 ?_
   refine AWp.ret ?_
   have hL1_ : ixOwnM_L1 l n v = some ((k1_ : Nat) : Int) := scanN_some hs1_ (by omega) (by unfold ixOwnM_B1; (try simp only [he1_]); (try rw [h2]); (try rw [h3]); first | done | kernel_rfl)
   exact leafR (r := vi ((k1_ : Nat) : Int)) (by unfold ixOwnM; (try rw [hL1_]); first | done | kernel_rfl)
  ·
   refine AWp.skip ?_
   refine AWp.he [.cast (vi (IntKind.i64.wrap (((k1_ : Nat) : Int) + 1))) (vi ((k1_ + 1 : Nat) : Int)) (congrArg vi (wrap_nat (by omega))), .run 1] 19 [(0, .rv (.sl 7 (l.map Dev.cells))), (1, .fn (.func 53) [] [.rv (.ptr [.v (.int .i64 n)]), .rv (.ptr [.v (.int .i64 v)])]), (7, vi ((l.length : Nat) : Int)), (8, vi ((k1_ + 1 : Nat) : Int))] [] 0 ?_
   exact ⟨k1_ + 1, ⟨by omega, scanN_none hs1_ (by omega) (by unfold ixOwnM_B1; (try simp only [he1_]); (try rw [h2]); (try rw [h3]); first | done | kernel_rfl)⟩, by omega, leG⟩
 ·
  have h2' := of_decide_eq_false h2
  refine AWp.exit ?_
  have hL1_ : ixOwnM_L1 l n v = none := scanN_end hs1_ (by omega)
  refine AWp.hz [.run 1] 19 [(4, vi (-1))] [] 0 ?_
  refine AWp.ret ?_
  exact leafR (r := vi (-1)) (by unfold ixOwnM; (try rw [hL1_]); first | done | kernel_rfl)
def ctOwnM (l : List Dev) (n v : Int) : Bool :=
  decide (ixOwnM l n v ≥ 0)
theorem ctOwnM_ok (l : List Dev) (n v : Int) :
 ACalls Try.prog G_ 52 [.rv (.sl 7 (l.map Dev.cells)), .fn (.func 53) [] [.rv (.ptr [.v (.int .i64 n)]), .rv (.ptr [.v (.int .i64 v)])]] [] 0 (fun r τ => r = vb (ctOwnM l n v) ∧ τ = []) := by
 refine ACalls.body Try.func52 rfl 9 [(0, .rv (.sl 7 (l.map Dev.cells))), (1, .fn (.func 53) [] [.rv (.ptr [.v (.int .i64 n)]), .rv (.ptr [.v (.int .i64 v)])])] ?_
 refine AWp.hz [.run 1] 9 [(0, .rv (.sl 7 (l.map Dev.cells))), (1, .fn (.func 53) [] [.rv (.ptr [.v (.int .i64 n)]), .rv (.ptr [.v (.int .i64 v)])])] [] 0 ?_
 refine AWp.hz [.run 2, .callB 73 [] [] [.rv (.sl 7 (l.map Dev.cells)), .fn (.func 53) [] [.rv (.ptr [.v (.int .i64 n)]), .rv (.ptr [.v (.int .i64 v)])]] (vi (ixOwnM l n v)) (ixOwnM_ok l n v), .run 2] 9 [(4, vb (decide (ixOwnM l n v ≥ 0)))] [] 0 ?_
 refine AWp.ret ?_
 exact leafR (r := vb (decide (ixOwnM l n v ≥ 0))) (by unfold ctOwnM; first | done | kernel_rfl)
def ownsM (h : Home) (n v : Int) : Bool :=
  ctOwnM h.devices n v
theorem ownsM_ok (h : Home) (n v : Int) :
 ACalls Try.prog G_ 25 [.agg (avs (Home.cells h)), vi n, vi v] [] 0 (fun r τ => r = vb (ownsM h n v) ∧ τ = []) := by
 refine ACalls.body Try.func25 rfl 11 [(0, .agg (avs (Home.cells h))), (1, vi n), (2, vi v)] ?_
 refine AWp.hz [.run 4] 11 [(3, .ptr 0 0), (4, .ptr 1 0), (5, .ptr 2 0)] [(2, .box 3 [vi v]), (1, .box 3 [vi n]), (0, .box 28 (avs (Home.cells h)))] 3 ?_
 refine AWp.hz [.run 2, .fnc, .callB 52 [] [] [.rv (.sl 7 (h.devices.map Dev.cells)), .fn (.func 53) [] [.rv (.ptr [.v (.int .i64 n)]), .rv (.ptr [.v (.int .i64 v)])]] (vb (ctOwnM h.devices n v)) (ctOwnM_ok h.devices n v), .run 1] 11 [(6, vb (ctOwnM h.devices n v))] [] 3 ?_
 refine AWp.ret ?_
 exact leafR (r := vb (ctOwnM h.devices n v)) (by unfold ownsM; first | done | kernel_rfl)
def dec1M (f : FieldV) (s : ByteArray) : Bool :=
  (match (s.data.toList)[0]? with | some e1_ => (f.code == IntKind.i64.wrap ((e1_.toNat : Nat) : Int)) | none => false)
theorem dec1M_ok (f : FieldV) (s : ByteArray) (hs : 0 < s.size) :
 ACalls Try.prog G_ 27 [.agg (avs (FieldV.cells f)), .rv (.ptr [.v (.string s)])] [] 0 (fun r τ => r = vb (dec1M f s) ∧ τ = []) := by
 refine ACalls.body Try.func27 rfl 10 [(0, .agg (avs (FieldV.cells f))), (1, .rv (.ptr [.v (.string s)]))] ?_
 refine AWp.hz [.run 2] 10 [(1, .rv (.ptr [.v (.string s)])), (2, .ptr 0 0)] [(0, .box 64 (avs (FieldV.cells f)))] 1 ?_
 obtain ⟨e1_, he1_⟩ : ∃ e_, (s.data.toList)[0]? = some e_ := byteAt (by omega)
 refine AWp.dz [.ptr 0 2, vi f.code, vs s, .rv (.v (.int .u8 ((e1_.toNat : Nat) : Int))), vi (IntKind.i64.wrap ((e1_.toNat : Nat) : Int)), vb (f.code == IntKind.i64.wrap ((e1_.toNat : Nat) : Int)), vb (f.code == IntKind.i64.wrap ((e1_.toNat : Nat) : Int))] 10 [(3, vb (f.code == IntKind.i64.wrap ((e1_.toNat : Nat) : Int)))] [] 1 ?_ ?_
 ·
  refine DSteps.cons (DStep.va) ?_
  refine DSteps.cons (DStep.va) ?_
  refine DSteps.cons (DStep.va) ?_
  refine DSteps.cons (DStep.vs (by kernel_rfl) (R_indexStrM s 0 rfl (by kernel_rfl) (by kernel_rfl) (by kernel_rfl) he1_)) ?_
  refine DSteps.cons (DStep.va) ?_
  refine DSteps.cons (DStep.va) ?_
  refine DSteps.cons (DStep.va) ?_
  exact DSteps.nl
 refine AWp.ret ?_
 exact leafR (r := vb (f.code == IntKind.i64.wrap ((e1_.toNat : Nat) : Int))) (by unfold dec1M; (try simp only [he1_]); first | done | kernel_rfl)
def ixDecM_B1 (l : List FieldV) (s : ByteArray) (k1_ : Nat) : Option Int :=
  (match (l)[k1_]? with | some e1_ => (bif dec1M e1_ s then some ((k1_ : Nat) : Int) else none) | none => none)
def ixDecM_L1 (l : List FieldV) (s : ByteArray) : Option Int := scanN (ixDecM_B1 l s) 0 l.length
def ixDecM (l : List FieldV) (s : ByteArray) : Int :=
  (ixDecM_L1 l s).getD (-1)
theorem ixDecM_ok (l : List FieldV) (s : ByteArray) (hs : 0 < s.size) :
 ACalls Try.prog G_ 26 [.rv (.sl 6 (l.map FieldV.cells)), .fn (.func 27) [] [.rv (.ptr [.v (.string s)])]] [] 0 (fun r τ => r = vi (ixDecM l s) ∧ τ = []) := by
 refine ACalls.body Try.func26 rfl 19 [(0, .rv (.sl 6 (l.map FieldV.cells))), (1, .fn (.func 27) [] [.rv (.ptr [.v (.string s)])])] ?_
 refine AWp.hz [.run 1] 19 [(0, .rv (.sl 6 (l.map FieldV.cells))), (1, .fn (.func 27) [] [.rv (.ptr [.v (.string s)])])] [] 0 ?_
 refine AWp.seq ?_
 refine AWp.hzl [.run 1, .len FieldV.cells l 6, .run 1] 19 [(0, .rv (.sl 6 (l.map FieldV.cells))), (1, .fn (.func 27) [] [.rv (.ptr [.v (.string s)])]), (7, vi ((l.length : Nat) : Int)), (8, vi 0)] [] 0 (fun hl => ?_)
 obtain ⟨hn1, -⟩ := hl
 refine AWp.block ?_
 refine AWp.loop (ι := Nat) (fun k1_ => Z 19 [(0, .rv (.sl 6 (l.map FieldV.cells))), (1, .fn (.func 27) [] [.rv (.ptr [.v (.string s)])]), (7, vi ((l.length : Nat) : Int)), (8, vi ((k1_ : Nat) : Int))] [] 0) (fun k1_ => k1_ ≤ l.length ∧ ixDecM_L1 l s = scanN (ixDecM_B1 l s) k1_ (l.length - k1_)) (fun k1_ => l.length - k1_) 0 leZ ⟨Nat.zero_le _, rfl⟩ ?_
 intro k1_ ⟨hk1_, hs1_⟩
 refine AWp.hz [.run 1] 19 [(0, .rv (.sl 6 (l.map FieldV.cells))), (1, .fn (.func 27) [] [.rv (.ptr [.v (.string s)])]), (7, vi ((l.length : Nat) : Int)), (8, vi ((k1_ : Nat) : Int)), (9, vb (decide (((k1_ : Nat) : Int) < ((l.length : Nat) : Int))))] [] 0 ?_
 refine AWp.seq ?_
 refine AWp.cnd (decide (((k1_ : Nat) : Int) < ((l.length : Nat) : Int))) (fun h2 => ?_) (fun h2 => ?_)
 ·
  have h2' := of_decide_eq_true h2
  refine AWp.skip ?_
  refine AWp.seq ?_
  refine AWp.block ?_
  refine AWp.hz [.run 2] 19 [(0, .rv (.sl 6 (l.map FieldV.cells))), (1, .fn (.func 27) [] [.rv (.ptr [.v (.string s)])]), (5, vi ((k1_ : Nat) : Int)), (7, vi ((l.length : Nat) : Int)), (8, vi ((k1_ : Nat) : Int))] [] 0 ?_
  obtain ⟨e1_, he1_⟩ := getEx (l := l) (j := k1_) (by omega)
  refine AWp.hz [.run 3, .idx FieldV.cells l 6 k1_ e1_ he1_, .run 1, .callB 27 [] [.rv (.ptr [.v (.string s)])] [.agg (avs (FieldV.cells e1_)), .rv (.ptr [.v (.string s)])] (vb (dec1M e1_ s)) (dec1M_ok e1_ s (by first | assumption | exact std_fit _ (List.mem_of_getElem? (by assumption)) | exact fit_s1 (by assumption) | exact std_fit | exact fun c hc => std_fit c (List.mem_of_mem_take (List.mem_of_mem_drop hc)) | exact Nat.le_trans (apply_len _ _ _ _) (by omega) | exact parts_fit (by assumption) | exact parts_fit (by assumption) _ (List.mem_of_getElem? (by assumption)) | (simp; done) | exact ⟨by simp, by simp⟩ | exact hw _ (List.mem_of_getElem? (by assumption)) | exact hw.1 _ (List.mem_of_getElem? (by assumption)) | exact (hw.2 _ (List.mem_of_getElem? (by assumption))).1 | exact (hw.2 _ (List.mem_of_getElem? (by assumption))).2 | omega | exact fit_take hw _))] 19 [(0, .rv (.sl 6 (l.map FieldV.cells))), (1, .fn (.func 27) [] [.rv (.ptr [.v (.string s)])]), (5, vi ((k1_ : Nat) : Int)), (7, vi ((l.length : Nat) : Int)), (8, vi ((k1_ : Nat) : Int)), (16, vb (dec1M e1_ s))] [] 0 ?_
  refine AWp.cnd (dec1M e1_ s) (fun h3 => ?_) (fun h3 => ?_)
  ·
   refine AWp.hz [.run 2] 19 [(4, vi ((k1_ : Nat) : Int))] [] 0 ?_
   refine AWp.ret ?_
   have hL1_ : ixDecM_L1 l s = some ((k1_ : Nat) : Int) := scanN_some hs1_ (by omega) (by unfold ixDecM_B1; (try simp only [he1_]); (try rw [h2]); (try rw [h3]); first | done | kernel_rfl)
   exact leafR (r := vi ((k1_ : Nat) : Int)) (by unfold ixDecM; (try rw [hL1_]); first | done | kernel_rfl)
  ·
   refine AWp.skip ?_
   refine AWp.he [.cast (vi (IntKind.i64.wrap (((k1_ : Nat) : Int) + 1))) (vi ((k1_ + 1 : Nat) : Int)) (congrArg vi (wrap_nat (by omega))), .run 1] 19 [(0, .rv (.sl 6 (l.map FieldV.cells))), (1, .fn (.func 27) [] [.rv (.ptr [.v (.string s)])]), (7, vi ((l.length : Nat) : Int)), (8, vi ((k1_ + 1 : Nat) : Int))] [] 0 ?_
   exact ⟨k1_ + 1, ⟨by omega, scanN_none hs1_ (by omega) (by unfold ixDecM_B1; (try simp only [he1_]); (try rw [h2]); (try rw [h3]); first | done | kernel_rfl)⟩, by omega, leG⟩
 ·
  have h2' := of_decide_eq_false h2
  refine AWp.exit ?_
  have hL1_ : ixDecM_L1 l s = none := scanN_end hs1_ (by omega)
  refine AWp.hz [.run 1] 19 [(4, vi (-1))] [] 0 ?_
  refine AWp.ret ?_
  exact leafR (r := vi (-1)) (by unfold ixDecM; (try rw [hL1_]); first | done | kernel_rfl)
def enc1M (f : FieldV) (x : ItemV) : Bool :=
  (beqS f.cluster x.key.cluster && beqS f.attr x.key.attr)
theorem enc1M_ok (f : FieldV) (x : ItemV) :
 ACalls Try.prog G_ 33 [.agg (avs (FieldV.cells f)), .rv (.ptr (ItemV.cells x))] [] 0 (fun r τ => r = vb (enc1M f x) ∧ τ = []) := by
 refine ACalls.body Try.func33 rfl 18 [(0, .agg (avs (FieldV.cells f))), (1, .rv (.ptr (ItemV.cells x)))] ?_
 refine AWp.hz [.run 2] 18 [(1, .rv (.ptr (ItemV.cells x))), (2, .ptr 0 0)] [(0, .box 64 (avs (FieldV.cells f)))] 1 ?_
 refine AWp.join (Z 18 [(3, vb (beqS f.cluster x.key.cluster && beqS f.attr x.key.attr))] [] 1) ?_ ?_
 ·
  refine AWp.region ?_
  refine AOps.hg [.run 7] (beqS f.cluster x.key.cluster) 18 (fun b_ => [(1, .rv (.ptr (ItemV.cells x))), (2, .ptr 0 0), (10, vb b_)]) [(0, .box 64 (avs (FieldV.cells f)))] 1 (fun hg1 => ?_) (fun hg1 => ?_)
  ·
   refine AOps.he [.run 8] 18 [(3, vb (beqS f.attr x.key.attr))] [] 1 ?_
   exact leZ (by rw [hg1]; first | done | kernel_rfl)
  ·
   refine AOps.he [.run 8] 18 [(3, vb false)] [] 1 ?_
   exact leZ (by rw [hg1]; first | done | kernel_rfl)
 ·
  refine AWp.ret ?_
  exact leafR (r := vb (beqS f.cluster x.key.cluster && beqS f.attr x.key.attr)) (by unfold enc1M; first | done | kernel_rfl)
def ixEncM_B1 (l : List FieldV) (x : ItemV) (k1_ : Nat) : Option Int :=
  (match (l)[k1_]? with | some e1_ => (bif enc1M e1_ x then some ((k1_ : Nat) : Int) else none) | none => none)
def ixEncM_L1 (l : List FieldV) (x : ItemV) : Option Int := scanN (ixEncM_B1 l x) 0 l.length
def ixEncM (l : List FieldV) (x : ItemV) : Int :=
  (ixEncM_L1 l x).getD (-1)
theorem ixEncM_ok (l : List FieldV) (x : ItemV) :
 ACalls Try.prog G_ 26 [.rv (.sl 6 (l.map FieldV.cells)), .fn (.func 33) [] [.rv (.ptr (ItemV.cells x))]] [] 0 (fun r τ => r = vi (ixEncM l x) ∧ τ = []) := by
 refine ACalls.body Try.func26 rfl 19 [(0, .rv (.sl 6 (l.map FieldV.cells))), (1, .fn (.func 33) [] [.rv (.ptr (ItemV.cells x))])] ?_
 refine AWp.hz [.run 1] 19 [(0, .rv (.sl 6 (l.map FieldV.cells))), (1, .fn (.func 33) [] [.rv (.ptr (ItemV.cells x))])] [] 0 ?_
 refine AWp.seq ?_
 refine AWp.hzl [.run 1, .len FieldV.cells l 6, .run 1] 19 [(0, .rv (.sl 6 (l.map FieldV.cells))), (1, .fn (.func 33) [] [.rv (.ptr (ItemV.cells x))]), (7, vi ((l.length : Nat) : Int)), (8, vi 0)] [] 0 (fun hl => ?_)
 obtain ⟨hn1, -⟩ := hl
 refine AWp.block ?_
 refine AWp.loop (ι := Nat) (fun k1_ => Z 19 [(0, .rv (.sl 6 (l.map FieldV.cells))), (1, .fn (.func 33) [] [.rv (.ptr (ItemV.cells x))]), (7, vi ((l.length : Nat) : Int)), (8, vi ((k1_ : Nat) : Int))] [] 0) (fun k1_ => k1_ ≤ l.length ∧ ixEncM_L1 l x = scanN (ixEncM_B1 l x) k1_ (l.length - k1_)) (fun k1_ => l.length - k1_) 0 leZ ⟨Nat.zero_le _, rfl⟩ ?_
 intro k1_ ⟨hk1_, hs1_⟩
 refine AWp.hz [.run 1] 19 [(0, .rv (.sl 6 (l.map FieldV.cells))), (1, .fn (.func 33) [] [.rv (.ptr (ItemV.cells x))]), (7, vi ((l.length : Nat) : Int)), (8, vi ((k1_ : Nat) : Int)), (9, vb (decide (((k1_ : Nat) : Int) < ((l.length : Nat) : Int))))] [] 0 ?_
 refine AWp.seq ?_
 refine AWp.cnd (decide (((k1_ : Nat) : Int) < ((l.length : Nat) : Int))) (fun h2 => ?_) (fun h2 => ?_)
 ·
  have h2' := of_decide_eq_true h2
  refine AWp.skip ?_
  refine AWp.seq ?_
  refine AWp.block ?_
  refine AWp.hz [.run 2] 19 [(0, .rv (.sl 6 (l.map FieldV.cells))), (1, .fn (.func 33) [] [.rv (.ptr (ItemV.cells x))]), (5, vi ((k1_ : Nat) : Int)), (7, vi ((l.length : Nat) : Int)), (8, vi ((k1_ : Nat) : Int))] [] 0 ?_
  obtain ⟨e1_, he1_⟩ := getEx (l := l) (j := k1_) (by omega)
  refine AWp.hz [.run 3, .idx FieldV.cells l 6 k1_ e1_ he1_, .run 1, .callB 33 [] [.rv (.ptr (ItemV.cells x))] [.agg (avs (FieldV.cells e1_)), .rv (.ptr (ItemV.cells x))] (vb (enc1M e1_ x)) (enc1M_ok e1_ x)] 19 [(0, .rv (.sl 6 (l.map FieldV.cells))), (1, .fn (.func 33) [] [.rv (.ptr (ItemV.cells x))]), (5, vi ((k1_ : Nat) : Int)), (7, vi ((l.length : Nat) : Int)), (8, vi ((k1_ : Nat) : Int)), (16, vb (enc1M e1_ x))] [] 0 ?_
  refine AWp.cnd (enc1M e1_ x) (fun h3 => ?_) (fun h3 => ?_)
  ·
   refine AWp.hz [.run 2] 19 [(4, vi ((k1_ : Nat) : Int))] [] 0 ?_
   refine AWp.ret ?_
   have hL1_ : ixEncM_L1 l x = some ((k1_ : Nat) : Int) := scanN_some hs1_ (by omega) (by unfold ixEncM_B1; (try simp only [he1_]); (try rw [h2]); (try rw [h3]); first | done | kernel_rfl)
   exact leafR (r := vi ((k1_ : Nat) : Int)) (by unfold ixEncM; (try rw [hL1_]); first | done | kernel_rfl)
  ·
   refine AWp.skip ?_
   refine AWp.he [.cast (vi (IntKind.i64.wrap (((k1_ : Nat) : Int) + 1))) (vi ((k1_ + 1 : Nat) : Int)) (congrArg vi (wrap_nat (by omega))), .run 1] 19 [(0, .rv (.sl 6 (l.map FieldV.cells))), (1, .fn (.func 33) [] [.rv (.ptr (ItemV.cells x))]), (7, vi ((l.length : Nat) : Int)), (8, vi ((k1_ + 1 : Nat) : Int))] [] 0 ?_
   exact ⟨k1_ + 1, ⟨by omega, scanN_none hs1_ (by omega) (by unfold ixEncM_B1; (try simp only [he1_]); (try rw [h2]); (try rw [h3]); first | done | kernel_rfl)⟩, by omega, leG⟩
 ·
  have h2' := of_decide_eq_false h2
  refine AWp.exit ?_
  have hL1_ : ixEncM_L1 l x = none := scanN_end hs1_ (by omega)
  refine AWp.hz [.run 1] 19 [(4, vi (-1))] [] 0 ?_
  refine AWp.ret ?_
  exact leafR (r := vi (-1)) (by unfold ixEncM; (try rw [hL1_]); first | done | kernel_rfl)
def numberM (f : FieldV) (v : Val) : Int × Bool :=
  (bif (v.kind == 1) then (v.n, true) else (bif (v.kind == 3) then (match (f.map)[v.n.toNat]? with | some e1_ => (e1_, true) | none => default) else ((if (if IntKind.i64.wrap (ceilM (IntKind.i64.wrap (IntKind.i64.wrap (10 * IntKind.i64.wrap (v.n - f.offset)) + 10)) f.scale - 1) < 0 then IntKind.i64.wrap (ceilM (IntKind.i64.wrap (IntKind.i64.wrap (10 * IntKind.i64.wrap (v.n - f.offset)) + 10)) f.scale - 1) else 0) > ceilM (IntKind.i64.wrap (10 * IntKind.i64.wrap (v.n - f.offset))) f.scale then (if IntKind.i64.wrap (ceilM (IntKind.i64.wrap (IntKind.i64.wrap (10 * IntKind.i64.wrap (v.n - f.offset)) + 10)) f.scale - 1) < 0 then IntKind.i64.wrap (ceilM (IntKind.i64.wrap (IntKind.i64.wrap (10 * IntKind.i64.wrap (v.n - f.offset)) + 10)) f.scale - 1) else 0) else ceilM (IntKind.i64.wrap (10 * IntKind.i64.wrap (v.n - f.offset))) f.scale), ((decide (ceilM (IntKind.i64.wrap (10 * IntKind.i64.wrap (v.n - f.offset))) f.scale ≤ IntKind.i64.wrap (ceilM (IntKind.i64.wrap (IntKind.i64.wrap (10 * IntKind.i64.wrap (v.n - f.offset)) + 10)) f.scale - 1)) && decide ((if (if IntKind.i64.wrap (ceilM (IntKind.i64.wrap (IntKind.i64.wrap (10 * IntKind.i64.wrap (v.n - f.offset)) + 10)) f.scale - 1) < 0 then IntKind.i64.wrap (ceilM (IntKind.i64.wrap (IntKind.i64.wrap (10 * IntKind.i64.wrap (v.n - f.offset)) + 10)) f.scale - 1) else 0) > ceilM (IntKind.i64.wrap (10 * IntKind.i64.wrap (v.n - f.offset))) f.scale then (if IntKind.i64.wrap (ceilM (IntKind.i64.wrap (IntKind.i64.wrap (10 * IntKind.i64.wrap (v.n - f.offset)) + 10)) f.scale - 1) < 0 then IntKind.i64.wrap (ceilM (IntKind.i64.wrap (IntKind.i64.wrap (10 * IntKind.i64.wrap (v.n - f.offset)) + 10)) f.scale - 1) else 0) else ceilM (IntKind.i64.wrap (10 * IntKind.i64.wrap (v.n - f.offset))) f.scale) ≥ -32768)) && decide ((if (if IntKind.i64.wrap (ceilM (IntKind.i64.wrap (IntKind.i64.wrap (10 * IntKind.i64.wrap (v.n - f.offset)) + 10)) f.scale - 1) < 0 then IntKind.i64.wrap (ceilM (IntKind.i64.wrap (IntKind.i64.wrap (10 * IntKind.i64.wrap (v.n - f.offset)) + 10)) f.scale - 1) else 0) > ceilM (IntKind.i64.wrap (10 * IntKind.i64.wrap (v.n - f.offset))) f.scale then (if IntKind.i64.wrap (ceilM (IntKind.i64.wrap (IntKind.i64.wrap (10 * IntKind.i64.wrap (v.n - f.offset)) + 10)) f.scale - 1) < 0 then IntKind.i64.wrap (ceilM (IntKind.i64.wrap (IntKind.i64.wrap (10 * IntKind.i64.wrap (v.n - f.offset)) + 10)) f.scale - 1) else 0) else ceilM (IntKind.i64.wrap (10 * IntKind.i64.wrap (v.n - f.offset))) f.scale) ≤ 32767)))))
theorem numberM_ok (f : FieldV) (v : Val) (he : v.kind = 3 → 0 ≤ v.n ∧ v.n < (f.map.length : Int)) (hs : v.kind ≠ 1 → v.kind ≠ 3 → 0 < f.scale) :
 ACalls Try.prog G_ 34 [.agg (avs (FieldV.cells f)), .agg (avs (Val.cells v))] [] 0 (fun r τ => r = .tuple [vi ((numberM f v).1), vb ((numberM f v).2)] ∧ τ = []) := by
 refine ACalls.body Try.func34 rfl 56 [(0, .agg (avs (FieldV.cells f))), (1, .agg (avs (Val.cells v)))] ?_
 refine AWp.hz [.run 4] 56 [(2, .ptr 0 0), (3, .ptr 1 0)] [(1, .box 46 (avs (Val.cells v))), (0, .box 64 (avs (FieldV.cells f)))] 2 ?_
 refine AWp.seq ?_
 refine AWp.hz [.run 2] 56 [(2, .ptr 0 0), (3, .ptr 1 0), (11, vi v.kind)] [(1, .box 46 (avs (Val.cells v))), (0, .box 64 (avs (FieldV.cells f)))] 2 ?_
 refine AWp.block ?_
 refine AWp.hz [.run 2] 56 [(2, .ptr 0 0), (3, .ptr 1 0), (11, vi v.kind), (12, vb (v.kind == 1))] [(1, .box 46 (avs (Val.cells v))), (0, .box 64 (avs (FieldV.cells f)))] 2 ?_
 refine AWp.cnd ((v.kind == 1)) (fun h1 => ?_) (fun h1 => ?_)
 ·
  refine AWp.hz [.run 4] 56 [(4, vi v.n), (5, vb true)] [] 2 ?_
  refine AWp.ret ?_
  exact leafR (r := .tuple [vi v.n, vb true]) (by show (.tuple [vi v.n, vb true] : AV) = .tuple [vi ((numberM f v).1), vb ((numberM f v).2)]; unfold numberM; (try rw [h1]); first | done | kernel_rfl)
 ·
  refine AWp.hz [.run 2] 56 [(2, .ptr 0 0), (3, .ptr 1 0), (16, vb (v.kind == 3))] [(1, .box 46 (avs (Val.cells v))), (0, .box 64 (avs (FieldV.cells f)))] 2 ?_
  refine AWp.cnd ((v.kind == 3)) (fun h2 => ?_) (fun h2 => ?_)
  ·
   have := he (eq_of_beq (by assumption))
   have ht3 : v.n = ((v.n.toNat : Nat) : Int) := (Int.toNat_of_nonneg (by omega)).symm
   obtain ⟨e1_, he1_⟩ := getEx (l := f.map) (j := v.n.toNat) (by omega)
   refine AWp.hz [.run 4, .slot 21 (vi v.n) (vi ((v.n.toNat : Nat) : Int)) (congrArg vi ht3), .idx intC f.map 1 v.n.toNat e1_ he1_, .run 3] 56 [(4, vi e1_), (5, vb true)] [] 2 ?_
   refine AWp.ret ?_
   exact leafR (r := .tuple [vi e1_, vb true]) (by show (.tuple [vi e1_, vb true] : AV) = .tuple [vi ((numberM f v).1), vb ((numberM f v).2)]; unfold numberM; (try simp only [he1_]); (try rw [h1]); (try rw [h2]); first | done | kernel_rfl)
  ·
   refine AWp.skip ?_
   refine AWp.hz [.run 7] 56 [(2, .ptr 0 0), (6, vi (IntKind.i64.wrap (10 * IntKind.i64.wrap (v.n - f.offset))))] [(0, .box 64 (avs (FieldV.cells f)))] 2 ?_
   refine AWp.dz [vi (IntKind.i64.wrap (10 * IntKind.i64.wrap (v.n - f.offset))), .ptr 0 3, vi f.scale, vi (ceilM (IntKind.i64.wrap (10 * IntKind.i64.wrap (v.n - f.offset))) f.scale), vi (IntKind.i64.wrap (10 * IntKind.i64.wrap (v.n - f.offset))), vi (IntKind.i64.wrap (IntKind.i64.wrap (10 * IntKind.i64.wrap (v.n - f.offset)) + 10)), .ptr 0 3, vi f.scale, vi (ceilM (IntKind.i64.wrap (IntKind.i64.wrap (10 * IntKind.i64.wrap (v.n - f.offset)) + 10)) f.scale), vi (IntKind.i64.wrap (ceilM (IntKind.i64.wrap (IntKind.i64.wrap (10 * IntKind.i64.wrap (v.n - f.offset)) + 10)) f.scale - 1)), vi (ceilM (IntKind.i64.wrap (10 * IntKind.i64.wrap (v.n - f.offset))) f.scale), vi (IntKind.i64.wrap (ceilM (IntKind.i64.wrap (IntKind.i64.wrap (10 * IntKind.i64.wrap (v.n - f.offset)) + 10)) f.scale - 1))] 56 [(7, vi (ceilM (IntKind.i64.wrap (10 * IntKind.i64.wrap (v.n - f.offset))) f.scale)), (8, vi (IntKind.i64.wrap (ceilM (IntKind.i64.wrap (IntKind.i64.wrap (10 * IntKind.i64.wrap (v.n - f.offset)) + 10)) f.scale - 1)))] [] 2 ?_ ?_
   ·
    refine DSteps.cons (DStep.va) ?_
    refine DSteps.cons (DStep.va) ?_
    refine DSteps.cons (DStep.va) ?_
    refine DSteps.cons (DStep.call rfl (by kernel_rfl) (by kernel_rfl) (by kernel_rfl) (args := [vi (IntKind.i64.wrap (10 * IntKind.i64.wrap (v.n - f.offset))), vi f.scale]) (by kernel_rfl) (by kernel_rfl) (ceilM_ok (IntKind.i64.wrap (10 * IntKind.i64.wrap (v.n - f.offset))) f.scale (by exact hs (beq_eq_false_iff_ne.1 (by assumption)) (beq_eq_false_iff_ne.1 (by assumption)))) (by kernel_rfl) (Nat.le_of_ble_eq_true (by kernel_rfl))) ?_
    refine DSteps.cons (DStep.va) ?_
    refine DSteps.cons (DStep.va) ?_
    refine DSteps.cons (DStep.va) ?_
    refine DSteps.cons (DStep.va) ?_
    refine DSteps.cons (DStep.call rfl (by kernel_rfl) (by kernel_rfl) (by kernel_rfl) (args := [vi (IntKind.i64.wrap (IntKind.i64.wrap (10 * IntKind.i64.wrap (v.n - f.offset)) + 10)), vi f.scale]) (by kernel_rfl) (by kernel_rfl) (ceilM_ok (IntKind.i64.wrap (IntKind.i64.wrap (10 * IntKind.i64.wrap (v.n - f.offset)) + 10)) f.scale (by exact hs (beq_eq_false_iff_ne.1 (by assumption)) (beq_eq_false_iff_ne.1 (by assumption)))) (by kernel_rfl) (Nat.le_of_ble_eq_true (by kernel_rfl))) ?_
    refine DSteps.cons (DStep.va) ?_
    refine DSteps.cons (DStep.va) ?_
    refine DSteps.cons (DStep.va) ?_
    exact DSteps.nl
   refine AWp.hz [.run 2, .mnx false 0 (IntKind.i64.wrap (ceilM (IntKind.i64.wrap (IntKind.i64.wrap (10 * IntKind.i64.wrap (v.n - f.offset)) + 10)) f.scale - 1)), .mnx true (ceilM (IntKind.i64.wrap (10 * IntKind.i64.wrap (v.n - f.offset))) f.scale) (if IntKind.i64.wrap (ceilM (IntKind.i64.wrap (IntKind.i64.wrap (10 * IntKind.i64.wrap (v.n - f.offset)) + 10)) f.scale - 1) < 0 then IntKind.i64.wrap (ceilM (IntKind.i64.wrap (IntKind.i64.wrap (10 * IntKind.i64.wrap (v.n - f.offset)) + 10)) f.scale - 1) else 0), .run 1] 56 [(7, vi (ceilM (IntKind.i64.wrap (10 * IntKind.i64.wrap (v.n - f.offset))) f.scale)), (8, vi (IntKind.i64.wrap (ceilM (IntKind.i64.wrap (IntKind.i64.wrap (10 * IntKind.i64.wrap (v.n - f.offset)) + 10)) f.scale - 1))), (9, vi (if (if IntKind.i64.wrap (ceilM (IntKind.i64.wrap (IntKind.i64.wrap (10 * IntKind.i64.wrap (v.n - f.offset)) + 10)) f.scale - 1) < 0 then IntKind.i64.wrap (ceilM (IntKind.i64.wrap (IntKind.i64.wrap (10 * IntKind.i64.wrap (v.n - f.offset)) + 10)) f.scale - 1) else 0) > ceilM (IntKind.i64.wrap (10 * IntKind.i64.wrap (v.n - f.offset))) f.scale then (if IntKind.i64.wrap (ceilM (IntKind.i64.wrap (IntKind.i64.wrap (10 * IntKind.i64.wrap (v.n - f.offset)) + 10)) f.scale - 1) < 0 then IntKind.i64.wrap (ceilM (IntKind.i64.wrap (IntKind.i64.wrap (10 * IntKind.i64.wrap (v.n - f.offset)) + 10)) f.scale - 1) else 0) else ceilM (IntKind.i64.wrap (10 * IntKind.i64.wrap (v.n - f.offset))) f.scale))] [] 2 ?_
   refine AWp.join (Z 56 [(4, vi (if (if IntKind.i64.wrap (ceilM (IntKind.i64.wrap (IntKind.i64.wrap (10 * IntKind.i64.wrap (v.n - f.offset)) + 10)) f.scale - 1) < 0 then IntKind.i64.wrap (ceilM (IntKind.i64.wrap (IntKind.i64.wrap (10 * IntKind.i64.wrap (v.n - f.offset)) + 10)) f.scale - 1) else 0) > ceilM (IntKind.i64.wrap (10 * IntKind.i64.wrap (v.n - f.offset))) f.scale then (if IntKind.i64.wrap (ceilM (IntKind.i64.wrap (IntKind.i64.wrap (10 * IntKind.i64.wrap (v.n - f.offset)) + 10)) f.scale - 1) < 0 then IntKind.i64.wrap (ceilM (IntKind.i64.wrap (IntKind.i64.wrap (10 * IntKind.i64.wrap (v.n - f.offset)) + 10)) f.scale - 1) else 0) else ceilM (IntKind.i64.wrap (10 * IntKind.i64.wrap (v.n - f.offset))) f.scale)), (5, vb ((decide (ceilM (IntKind.i64.wrap (10 * IntKind.i64.wrap (v.n - f.offset))) f.scale ≤ IntKind.i64.wrap (ceilM (IntKind.i64.wrap (IntKind.i64.wrap (10 * IntKind.i64.wrap (v.n - f.offset)) + 10)) f.scale - 1)) && decide ((if (if IntKind.i64.wrap (ceilM (IntKind.i64.wrap (IntKind.i64.wrap (10 * IntKind.i64.wrap (v.n - f.offset)) + 10)) f.scale - 1) < 0 then IntKind.i64.wrap (ceilM (IntKind.i64.wrap (IntKind.i64.wrap (10 * IntKind.i64.wrap (v.n - f.offset)) + 10)) f.scale - 1) else 0) > ceilM (IntKind.i64.wrap (10 * IntKind.i64.wrap (v.n - f.offset))) f.scale then (if IntKind.i64.wrap (ceilM (IntKind.i64.wrap (IntKind.i64.wrap (10 * IntKind.i64.wrap (v.n - f.offset)) + 10)) f.scale - 1) < 0 then IntKind.i64.wrap (ceilM (IntKind.i64.wrap (IntKind.i64.wrap (10 * IntKind.i64.wrap (v.n - f.offset)) + 10)) f.scale - 1) else 0) else ceilM (IntKind.i64.wrap (10 * IntKind.i64.wrap (v.n - f.offset))) f.scale) ≥ -32768)) && decide ((if (if IntKind.i64.wrap (ceilM (IntKind.i64.wrap (IntKind.i64.wrap (10 * IntKind.i64.wrap (v.n - f.offset)) + 10)) f.scale - 1) < 0 then IntKind.i64.wrap (ceilM (IntKind.i64.wrap (IntKind.i64.wrap (10 * IntKind.i64.wrap (v.n - f.offset)) + 10)) f.scale - 1) else 0) > ceilM (IntKind.i64.wrap (10 * IntKind.i64.wrap (v.n - f.offset))) f.scale then (if IntKind.i64.wrap (ceilM (IntKind.i64.wrap (IntKind.i64.wrap (10 * IntKind.i64.wrap (v.n - f.offset)) + 10)) f.scale - 1) < 0 then IntKind.i64.wrap (ceilM (IntKind.i64.wrap (IntKind.i64.wrap (10 * IntKind.i64.wrap (v.n - f.offset)) + 10)) f.scale - 1) else 0) else ceilM (IntKind.i64.wrap (10 * IntKind.i64.wrap (v.n - f.offset))) f.scale) ≤ 32767)))] [] 2) ?_ ?_
   ·
    refine AWp.region ?_
    refine AOps.hg [.run 5] (decide (ceilM (IntKind.i64.wrap (10 * IntKind.i64.wrap (v.n - f.offset))) f.scale ≤ IntKind.i64.wrap (ceilM (IntKind.i64.wrap (IntKind.i64.wrap (10 * IntKind.i64.wrap (v.n - f.offset)) + 10)) f.scale - 1))) 56 (fun b_ => [(9, vi (if (if IntKind.i64.wrap (ceilM (IntKind.i64.wrap (IntKind.i64.wrap (10 * IntKind.i64.wrap (v.n - f.offset)) + 10)) f.scale - 1) < 0 then IntKind.i64.wrap (ceilM (IntKind.i64.wrap (IntKind.i64.wrap (10 * IntKind.i64.wrap (v.n - f.offset)) + 10)) f.scale - 1) else 0) > ceilM (IntKind.i64.wrap (10 * IntKind.i64.wrap (v.n - f.offset))) f.scale then (if IntKind.i64.wrap (ceilM (IntKind.i64.wrap (IntKind.i64.wrap (10 * IntKind.i64.wrap (v.n - f.offset)) + 10)) f.scale - 1) < 0 then IntKind.i64.wrap (ceilM (IntKind.i64.wrap (IntKind.i64.wrap (10 * IntKind.i64.wrap (v.n - f.offset)) + 10)) f.scale - 1) else 0) else ceilM (IntKind.i64.wrap (10 * IntKind.i64.wrap (v.n - f.offset))) f.scale)), (44, vi (if (if IntKind.i64.wrap (ceilM (IntKind.i64.wrap (IntKind.i64.wrap (10 * IntKind.i64.wrap (v.n - f.offset)) + 10)) f.scale - 1) < 0 then IntKind.i64.wrap (ceilM (IntKind.i64.wrap (IntKind.i64.wrap (10 * IntKind.i64.wrap (v.n - f.offset)) + 10)) f.scale - 1) else 0) > ceilM (IntKind.i64.wrap (10 * IntKind.i64.wrap (v.n - f.offset))) f.scale then (if IntKind.i64.wrap (ceilM (IntKind.i64.wrap (IntKind.i64.wrap (10 * IntKind.i64.wrap (v.n - f.offset)) + 10)) f.scale - 1) < 0 then IntKind.i64.wrap (ceilM (IntKind.i64.wrap (IntKind.i64.wrap (10 * IntKind.i64.wrap (v.n - f.offset)) + 10)) f.scale - 1) else 0) else ceilM (IntKind.i64.wrap (10 * IntKind.i64.wrap (v.n - f.offset))) f.scale)), (48, vb b_)]) [] 2 (fun hg4 => ?_) (fun hg4 => ?_)
    ·
     have hg4' := of_decide_eq_true hg4
     refine AOps.hg [.run 4] (decide ((if (if IntKind.i64.wrap (ceilM (IntKind.i64.wrap (IntKind.i64.wrap (10 * IntKind.i64.wrap (v.n - f.offset)) + 10)) f.scale - 1) < 0 then IntKind.i64.wrap (ceilM (IntKind.i64.wrap (IntKind.i64.wrap (10 * IntKind.i64.wrap (v.n - f.offset)) + 10)) f.scale - 1) else 0) > ceilM (IntKind.i64.wrap (10 * IntKind.i64.wrap (v.n - f.offset))) f.scale then (if IntKind.i64.wrap (ceilM (IntKind.i64.wrap (IntKind.i64.wrap (10 * IntKind.i64.wrap (v.n - f.offset)) + 10)) f.scale - 1) < 0 then IntKind.i64.wrap (ceilM (IntKind.i64.wrap (IntKind.i64.wrap (10 * IntKind.i64.wrap (v.n - f.offset)) + 10)) f.scale - 1) else 0) else ceilM (IntKind.i64.wrap (10 * IntKind.i64.wrap (v.n - f.offset))) f.scale) ≥ -32768)) 56 (fun b_ => [(9, vi (if (if IntKind.i64.wrap (ceilM (IntKind.i64.wrap (IntKind.i64.wrap (10 * IntKind.i64.wrap (v.n - f.offset)) + 10)) f.scale - 1) < 0 then IntKind.i64.wrap (ceilM (IntKind.i64.wrap (IntKind.i64.wrap (10 * IntKind.i64.wrap (v.n - f.offset)) + 10)) f.scale - 1) else 0) > ceilM (IntKind.i64.wrap (10 * IntKind.i64.wrap (v.n - f.offset))) f.scale then (if IntKind.i64.wrap (ceilM (IntKind.i64.wrap (IntKind.i64.wrap (10 * IntKind.i64.wrap (v.n - f.offset)) + 10)) f.scale - 1) < 0 then IntKind.i64.wrap (ceilM (IntKind.i64.wrap (IntKind.i64.wrap (10 * IntKind.i64.wrap (v.n - f.offset)) + 10)) f.scale - 1) else 0) else ceilM (IntKind.i64.wrap (10 * IntKind.i64.wrap (v.n - f.offset))) f.scale)), (44, vi (if (if IntKind.i64.wrap (ceilM (IntKind.i64.wrap (IntKind.i64.wrap (10 * IntKind.i64.wrap (v.n - f.offset)) + 10)) f.scale - 1) < 0 then IntKind.i64.wrap (ceilM (IntKind.i64.wrap (IntKind.i64.wrap (10 * IntKind.i64.wrap (v.n - f.offset)) + 10)) f.scale - 1) else 0) > ceilM (IntKind.i64.wrap (10 * IntKind.i64.wrap (v.n - f.offset))) f.scale then (if IntKind.i64.wrap (ceilM (IntKind.i64.wrap (IntKind.i64.wrap (10 * IntKind.i64.wrap (v.n - f.offset)) + 10)) f.scale - 1) < 0 then IntKind.i64.wrap (ceilM (IntKind.i64.wrap (IntKind.i64.wrap (10 * IntKind.i64.wrap (v.n - f.offset)) + 10)) f.scale - 1) else 0) else ceilM (IntKind.i64.wrap (10 * IntKind.i64.wrap (v.n - f.offset))) f.scale)), (52, vb b_)]) [] 2 (fun hg5 => ?_) (fun hg5 => ?_)
     ·
      have hg5' := of_decide_eq_true hg5
      refine AOps.he [.run 5] 56 [(4, vi (if (if IntKind.i64.wrap (ceilM (IntKind.i64.wrap (IntKind.i64.wrap (10 * IntKind.i64.wrap (v.n - f.offset)) + 10)) f.scale - 1) < 0 then IntKind.i64.wrap (ceilM (IntKind.i64.wrap (IntKind.i64.wrap (10 * IntKind.i64.wrap (v.n - f.offset)) + 10)) f.scale - 1) else 0) > ceilM (IntKind.i64.wrap (10 * IntKind.i64.wrap (v.n - f.offset))) f.scale then (if IntKind.i64.wrap (ceilM (IntKind.i64.wrap (IntKind.i64.wrap (10 * IntKind.i64.wrap (v.n - f.offset)) + 10)) f.scale - 1) < 0 then IntKind.i64.wrap (ceilM (IntKind.i64.wrap (IntKind.i64.wrap (10 * IntKind.i64.wrap (v.n - f.offset)) + 10)) f.scale - 1) else 0) else ceilM (IntKind.i64.wrap (10 * IntKind.i64.wrap (v.n - f.offset))) f.scale)), (5, vb (decide ((if (if IntKind.i64.wrap (ceilM (IntKind.i64.wrap (IntKind.i64.wrap (10 * IntKind.i64.wrap (v.n - f.offset)) + 10)) f.scale - 1) < 0 then IntKind.i64.wrap (ceilM (IntKind.i64.wrap (IntKind.i64.wrap (10 * IntKind.i64.wrap (v.n - f.offset)) + 10)) f.scale - 1) else 0) > ceilM (IntKind.i64.wrap (10 * IntKind.i64.wrap (v.n - f.offset))) f.scale then (if IntKind.i64.wrap (ceilM (IntKind.i64.wrap (IntKind.i64.wrap (10 * IntKind.i64.wrap (v.n - f.offset)) + 10)) f.scale - 1) < 0 then IntKind.i64.wrap (ceilM (IntKind.i64.wrap (IntKind.i64.wrap (10 * IntKind.i64.wrap (v.n - f.offset)) + 10)) f.scale - 1) else 0) else ceilM (IntKind.i64.wrap (10 * IntKind.i64.wrap (v.n - f.offset))) f.scale) ≤ 32767)))] [] 2 ?_
      exact leZ (by rw [hg4, hg5]; first | done | kernel_rfl)
     ·
      have hg5' := of_decide_eq_false hg5
      refine AOps.he [.run 5] 56 [(4, vi (if (if IntKind.i64.wrap (ceilM (IntKind.i64.wrap (IntKind.i64.wrap (10 * IntKind.i64.wrap (v.n - f.offset)) + 10)) f.scale - 1) < 0 then IntKind.i64.wrap (ceilM (IntKind.i64.wrap (IntKind.i64.wrap (10 * IntKind.i64.wrap (v.n - f.offset)) + 10)) f.scale - 1) else 0) > ceilM (IntKind.i64.wrap (10 * IntKind.i64.wrap (v.n - f.offset))) f.scale then (if IntKind.i64.wrap (ceilM (IntKind.i64.wrap (IntKind.i64.wrap (10 * IntKind.i64.wrap (v.n - f.offset)) + 10)) f.scale - 1) < 0 then IntKind.i64.wrap (ceilM (IntKind.i64.wrap (IntKind.i64.wrap (10 * IntKind.i64.wrap (v.n - f.offset)) + 10)) f.scale - 1) else 0) else ceilM (IntKind.i64.wrap (10 * IntKind.i64.wrap (v.n - f.offset))) f.scale)), (5, vb false)] [] 2 ?_
      exact leZ (by rw [hg4, hg5]; first | done | kernel_rfl)
    ·
     have hg4' := of_decide_eq_false hg4
     refine AOps.he [.run 9] 56 [(4, vi (if (if IntKind.i64.wrap (ceilM (IntKind.i64.wrap (IntKind.i64.wrap (10 * IntKind.i64.wrap (v.n - f.offset)) + 10)) f.scale - 1) < 0 then IntKind.i64.wrap (ceilM (IntKind.i64.wrap (IntKind.i64.wrap (10 * IntKind.i64.wrap (v.n - f.offset)) + 10)) f.scale - 1) else 0) > ceilM (IntKind.i64.wrap (10 * IntKind.i64.wrap (v.n - f.offset))) f.scale then (if IntKind.i64.wrap (ceilM (IntKind.i64.wrap (IntKind.i64.wrap (10 * IntKind.i64.wrap (v.n - f.offset)) + 10)) f.scale - 1) < 0 then IntKind.i64.wrap (ceilM (IntKind.i64.wrap (IntKind.i64.wrap (10 * IntKind.i64.wrap (v.n - f.offset)) + 10)) f.scale - 1) else 0) else ceilM (IntKind.i64.wrap (10 * IntKind.i64.wrap (v.n - f.offset))) f.scale)), (5, vb false)] [] 2 ?_
     exact leZ (by rw [hg4]; first | done | kernel_rfl)
   ·
    refine AWp.ret ?_
    exact leafR (r := .tuple [vi (if (if IntKind.i64.wrap (ceilM (IntKind.i64.wrap (IntKind.i64.wrap (10 * IntKind.i64.wrap (v.n - f.offset)) + 10)) f.scale - 1) < 0 then IntKind.i64.wrap (ceilM (IntKind.i64.wrap (IntKind.i64.wrap (10 * IntKind.i64.wrap (v.n - f.offset)) + 10)) f.scale - 1) else 0) > ceilM (IntKind.i64.wrap (10 * IntKind.i64.wrap (v.n - f.offset))) f.scale then (if IntKind.i64.wrap (ceilM (IntKind.i64.wrap (IntKind.i64.wrap (10 * IntKind.i64.wrap (v.n - f.offset)) + 10)) f.scale - 1) < 0 then IntKind.i64.wrap (ceilM (IntKind.i64.wrap (IntKind.i64.wrap (10 * IntKind.i64.wrap (v.n - f.offset)) + 10)) f.scale - 1) else 0) else ceilM (IntKind.i64.wrap (10 * IntKind.i64.wrap (v.n - f.offset))) f.scale), vb ((decide (ceilM (IntKind.i64.wrap (10 * IntKind.i64.wrap (v.n - f.offset))) f.scale ≤ IntKind.i64.wrap (ceilM (IntKind.i64.wrap (IntKind.i64.wrap (10 * IntKind.i64.wrap (v.n - f.offset)) + 10)) f.scale - 1)) && decide ((if (if IntKind.i64.wrap (ceilM (IntKind.i64.wrap (IntKind.i64.wrap (10 * IntKind.i64.wrap (v.n - f.offset)) + 10)) f.scale - 1) < 0 then IntKind.i64.wrap (ceilM (IntKind.i64.wrap (IntKind.i64.wrap (10 * IntKind.i64.wrap (v.n - f.offset)) + 10)) f.scale - 1) else 0) > ceilM (IntKind.i64.wrap (10 * IntKind.i64.wrap (v.n - f.offset))) f.scale then (if IntKind.i64.wrap (ceilM (IntKind.i64.wrap (IntKind.i64.wrap (10 * IntKind.i64.wrap (v.n - f.offset)) + 10)) f.scale - 1) < 0 then IntKind.i64.wrap (ceilM (IntKind.i64.wrap (IntKind.i64.wrap (10 * IntKind.i64.wrap (v.n - f.offset)) + 10)) f.scale - 1) else 0) else ceilM (IntKind.i64.wrap (10 * IntKind.i64.wrap (v.n - f.offset))) f.scale) ≥ -32768)) && decide ((if (if IntKind.i64.wrap (ceilM (IntKind.i64.wrap (IntKind.i64.wrap (10 * IntKind.i64.wrap (v.n - f.offset)) + 10)) f.scale - 1) < 0 then IntKind.i64.wrap (ceilM (IntKind.i64.wrap (IntKind.i64.wrap (10 * IntKind.i64.wrap (v.n - f.offset)) + 10)) f.scale - 1) else 0) > ceilM (IntKind.i64.wrap (10 * IntKind.i64.wrap (v.n - f.offset))) f.scale then (if IntKind.i64.wrap (ceilM (IntKind.i64.wrap (IntKind.i64.wrap (10 * IntKind.i64.wrap (v.n - f.offset)) + 10)) f.scale - 1) < 0 then IntKind.i64.wrap (ceilM (IntKind.i64.wrap (IntKind.i64.wrap (10 * IntKind.i64.wrap (v.n - f.offset)) + 10)) f.scale - 1) else 0) else ceilM (IntKind.i64.wrap (10 * IntKind.i64.wrap (v.n - f.offset))) f.scale) ≤ 32767))]) (by show (.tuple [vi (if (if IntKind.i64.wrap (ceilM (IntKind.i64.wrap (IntKind.i64.wrap (10 * IntKind.i64.wrap (v.n - f.offset)) + 10)) f.scale - 1) < 0 then IntKind.i64.wrap (ceilM (IntKind.i64.wrap (IntKind.i64.wrap (10 * IntKind.i64.wrap (v.n - f.offset)) + 10)) f.scale - 1) else 0) > ceilM (IntKind.i64.wrap (10 * IntKind.i64.wrap (v.n - f.offset))) f.scale then (if IntKind.i64.wrap (ceilM (IntKind.i64.wrap (IntKind.i64.wrap (10 * IntKind.i64.wrap (v.n - f.offset)) + 10)) f.scale - 1) < 0 then IntKind.i64.wrap (ceilM (IntKind.i64.wrap (IntKind.i64.wrap (10 * IntKind.i64.wrap (v.n - f.offset)) + 10)) f.scale - 1) else 0) else ceilM (IntKind.i64.wrap (10 * IntKind.i64.wrap (v.n - f.offset))) f.scale), vb ((decide (ceilM (IntKind.i64.wrap (10 * IntKind.i64.wrap (v.n - f.offset))) f.scale ≤ IntKind.i64.wrap (ceilM (IntKind.i64.wrap (IntKind.i64.wrap (10 * IntKind.i64.wrap (v.n - f.offset)) + 10)) f.scale - 1)) && decide ((if (if IntKind.i64.wrap (ceilM (IntKind.i64.wrap (IntKind.i64.wrap (10 * IntKind.i64.wrap (v.n - f.offset)) + 10)) f.scale - 1) < 0 then IntKind.i64.wrap (ceilM (IntKind.i64.wrap (IntKind.i64.wrap (10 * IntKind.i64.wrap (v.n - f.offset)) + 10)) f.scale - 1) else 0) > ceilM (IntKind.i64.wrap (10 * IntKind.i64.wrap (v.n - f.offset))) f.scale then (if IntKind.i64.wrap (ceilM (IntKind.i64.wrap (IntKind.i64.wrap (10 * IntKind.i64.wrap (v.n - f.offset)) + 10)) f.scale - 1) < 0 then IntKind.i64.wrap (ceilM (IntKind.i64.wrap (IntKind.i64.wrap (10 * IntKind.i64.wrap (v.n - f.offset)) + 10)) f.scale - 1) else 0) else ceilM (IntKind.i64.wrap (10 * IntKind.i64.wrap (v.n - f.offset))) f.scale) ≥ -32768)) && decide ((if (if IntKind.i64.wrap (ceilM (IntKind.i64.wrap (IntKind.i64.wrap (10 * IntKind.i64.wrap (v.n - f.offset)) + 10)) f.scale - 1) < 0 then IntKind.i64.wrap (ceilM (IntKind.i64.wrap (IntKind.i64.wrap (10 * IntKind.i64.wrap (v.n - f.offset)) + 10)) f.scale - 1) else 0) > ceilM (IntKind.i64.wrap (10 * IntKind.i64.wrap (v.n - f.offset))) f.scale then (if IntKind.i64.wrap (ceilM (IntKind.i64.wrap (IntKind.i64.wrap (10 * IntKind.i64.wrap (v.n - f.offset)) + 10)) f.scale - 1) < 0 then IntKind.i64.wrap (ceilM (IntKind.i64.wrap (IntKind.i64.wrap (10 * IntKind.i64.wrap (v.n - f.offset)) + 10)) f.scale - 1) else 0) else ceilM (IntKind.i64.wrap (10 * IntKind.i64.wrap (v.n - f.offset))) f.scale) ≤ 32767))] : AV) = .tuple [vi ((numberM f v).1), vb ((numberM f v).2)]; unfold numberM; (try rw [h1]); (try rw [h2]); first | done | kernel_rfl)
end Go.Proofs.Ytmjimhkbehoomaa
