/- Rollout: the small functions. -/
import Derived.Test.YtjgpnceaicijcaaWA7
import Derived.Test.YtjgpnceaicijcaaWNg
namespace Go.Proofs.Ytjgpnceaicijcaa
open Go Go.Av Go.Hh Go.Proofs
set_option maxRecDepth 100000
set_option maxHeartbeats 4000000
def limitM (n : Int) : Int :=
  (if 1099511627776 < (if 0 > n then 0 else n) then 1099511627776 else (if 0 > n then 0 else n))
theorem limitM_ok (n : Int) :
 ACalls Try.prog G_ 42 [vi n] [] 0 (fun r τ => r = vi (limitM n) ∧ τ = []) := by
 refine ACalls.body Try.func42 rfl 6 [(0, vi n)] ?_
 refine AWp.hz [.run 1] 6 [(0, vi n)] [] 0 ?_
 refine AWp.hz [.run 1, .mnx true n 0, .mnx false (if 0 > n then 0 else n) 1099511627776, .run 1] 6 [(2, vi (if 1099511627776 < (if 0 > n then 0 else n) then 1099511627776 else (if 0 > n then 0 else n)))] [] 0 ?_
 refine AWp.ret ?_
 exact leafR (r := vi (if 1099511627776 < (if 0 > n then 0 else n) then 1099511627776 else (if 0 > n then 0 else n))) (by unfold limitM; first | done | kernel_rfl)
def namedM (a b : Int) : Bool :=
  ((decide (a ≥ 0) && (decide (a ≤ 255) && decide (b ≥ 1))) && decide (b ≤ 65535))
theorem namedM_ok (a b : Int) :
 ACalls Try.prog G_ 59 [vi a, vi b] [] 0 (fun r τ => r = vb (namedM a b) ∧ τ = []) := by
 refine ACalls.body Try.func59 rfl 19 [(0, vi a), (1, vi b)] ?_
 refine AWp.hz [.run 1] 19 [(0, vi a), (1, vi b)] [] 0 ?_
 refine AWp.join (Z 19 [(4, vb ((decide (a ≥ 0) && (decide (a ≤ 255) && decide (b ≥ 1))) && decide (b ≤ 65535)))] [] 0) ?_ ?_
 ·
  refine AWp.region ?_
  refine AOps.hg [.run 3] (decide (a ≥ 0)) 19 (fun b_ => [(0, vi a), (1, vi b), (7, vb b_)]) [] 0 (fun hg1 => ?_) (fun hg1 => ?_)
  ·
   have hg1' := of_decide_eq_true hg1
   refine AOps.hg [.run 4] (decide (a ≤ 255)) 19 (fun b_ => [(1, vi b), (11, vb b_)]) [] 0 (fun hg2 => ?_) (fun hg2 => ?_)
   ·
    have hg2' := of_decide_eq_true hg2
    refine AOps.hg [.run 4] (decide (b ≥ 1)) 19 (fun b_ => [(1, vi b), (15, vb b_)]) [] 0 (fun hg3 => ?_) (fun hg3 => ?_)
    ·
     have hg3' := of_decide_eq_true hg3
     refine AOps.he [.run 4] 19 [(4, vb (decide (b ≤ 65535)))] [] 0 ?_
     exact leZ (by rw [hg1, hg2, hg3]; first | done | kernel_rfl)
    ·
     have hg3' := of_decide_eq_false hg3
     refine AOps.he [.run 4] 19 [(4, vb false)] [] 0 ?_
     exact leZ (by rw [hg1, hg2, hg3]; first | done | kernel_rfl)
   ·
    have hg2' := of_decide_eq_false hg2
    refine AOps.he [.run 8] 19 [(4, vb false)] [] 0 ?_
    exact leZ (by rw [hg1, hg2]; first | done | kernel_rfl)
  ·
   have hg1' := of_decide_eq_false hg1
   refine AOps.he [.run 12] 19 [(4, vb false)] [] 0 ?_
   exact leZ (by rw [hg1]; first | done | kernel_rfl)
 ·
  refine AWp.ret ?_
  exact leafR (r := vb ((decide (a ≥ 0) && (decide (a ≤ 255) && decide (b ≥ 1))) && decide (b ≤ 65535))) (by unfold namedM; first | done | kernel_rfl)
def fwCheckM_B1 (f : Firmware) (k1_ : Nat) : Option Int :=
  (match (f.sums)[k1_]? with | some e1_ => (bif (decide (e1_ < 0) || decide (e1_ > 4294967295)) then some 2 else none) | none => none)
def fwCheckM_L1 (f : Firmware) : Option Int := scanN (fwCheckM_B1 f) 0 f.sums.length
def fwCheckM (f : Firmware) : Int :=
  (bif !(namedM f.vendor f.version) then 2 else (bif (decide (((f.sums.length : Nat) : Int) < 1) || decide (((f.sums.length : Nat) : Int) > 64)) then 3 else (fwCheckM_L1 f).getD 0))
theorem fwCheckM_ok (f : Firmware) :
 ACalls Try.prog G_ 31 [.agg (avs (Firmware.cells f))] [] 0 (fun r τ => r = vi (fwCheckM f) ∧ τ = []) := by
 refine ACalls.body Try.func31 rfl 35 [(0, .agg (avs (Firmware.cells f)))] ?_
 refine AWp.hz [.run 2] 35 [(1, .ptr 0 0)] [(0, .box 28 (avs (Firmware.cells f)))] 1 ?_
 refine AWp.seq ?_
 refine AWp.hz [.run 4, .call 59 [vi f.vendor, vi f.version] (vb (namedM f.vendor f.version)) [] 0 (namedM_ok f.vendor f.version), .run 1] 35 [(1, .ptr 0 0), (10, vb (!(namedM f.vendor f.version)))] [(0, .box 28 (avs (Firmware.cells f)))] 1 ?_
 refine AWp.cnd (!(namedM f.vendor f.version)) (fun h1 => ?_) (fun h1 => ?_)
 ·
  refine AWp.hz [.run 1] 35 [(2, vi 2)] [] 1 ?_
  refine AWp.ret ?_
  exact leafR (r := vi 2) (by unfold fwCheckM; (try rw [h1]); first | done | kernel_rfl)
 ·
  refine AWp.skip ?_
  refine AWp.seq ?_
  refine AWp.join (Z 35 [(1, .ptr 0 0), (20, vb (decide (((f.sums.length : Nat) : Int) < 1) || decide (((f.sums.length : Nat) : Int) > 64)))] [(0, .box 28 (avs (Firmware.cells f)))] 1) ?_ ?_
  ·
   refine AWp.region ?_
   refine AOps.hzl [.run 2, .len intC f.sums 1, .run 2] 35 [(1, .ptr 0 0), (15, vb (decide (((f.sums.length : Nat) : Int) < 1)))] [(0, .box 28 (avs (Firmware.cells f)))] 1 (fun hl => ?_)
   obtain ⟨hn2, -⟩ := hl
   refine AOps.hg [] (decide (((f.sums.length : Nat) : Int) < 1)) 35 (fun b_ => [(1, .ptr 0 0), (15, vb b_)]) [(0, .box 28 (avs (Firmware.cells f)))] 1 (fun hg3 => ?_) (fun hg3 => ?_)
   ·
    have hg3' := of_decide_eq_true hg3
    refine AOps.he [.run 5] 35 [(1, .ptr 0 0), (20, vb true)] [(0, .box 28 (avs (Firmware.cells f)))] 1 ?_
    exact leZ (by rw [hg3]; first | done | kernel_rfl)
   ·
    have hg3' := of_decide_eq_false hg3
    refine AOps.hel [.run 2, .len intC f.sums 1, .run 2] 35 [(1, .ptr 0 0), (20, vb (decide (((f.sums.length : Nat) : Int) > 64)))] [(0, .box 28 (avs (Firmware.cells f)))] 1 (fun hl => ?_)
    obtain ⟨hn4, -⟩ := hl
    exact leZ (by rw [hg3]; first | done | kernel_rfl)
  ·
   refine AWp.cnd ((decide (((f.sums.length : Nat) : Int) < 1) || decide (((f.sums.length : Nat) : Int) > 64))) (fun h5 => ?_) (fun h5 => ?_)
   ·
    refine AWp.hz [.run 1] 35 [(2, vi 3)] [] 1 ?_
    refine AWp.ret ?_
    exact leafR (r := vi 3) (by unfold fwCheckM; (try rw [h1]); (try rw [h5]); first | done | kernel_rfl)
   ·
    have h5l := or_fl h5
    have h5l' := of_decide_eq_false h5l
    have h5r := or_fr h5
    have h5r' := of_decide_eq_false h5r
    refine AWp.skip ?_
    refine AWp.seq ?_
    refine AWp.hzl [.run 2, .len intC f.sums 1, .run 1] 35 [(22, .rv (.sl 1 (f.sums.map intC))), (23, vi ((f.sums.length : Nat) : Int)), (24, vi 0)] [] 1 (fun hl => ?_)
    obtain ⟨hn6, -⟩ := hl
    refine AWp.block ?_
    refine AWp.loop (ι := Nat) (fun k1_ => Z 35 [(22, .rv (.sl 1 (f.sums.map intC))), (23, vi ((f.sums.length : Nat) : Int)), (24, vi ((k1_ : Nat) : Int))] [] 1) (fun k1_ => k1_ ≤ f.sums.length ∧ fwCheckM_L1 f = scanN (fwCheckM_B1 f) k1_ (f.sums.length - k1_)) (fun k1_ => f.sums.length - k1_) 0 leZ ⟨Nat.zero_le _, rfl⟩ ?_
    intro k1_ ⟨hk1_, hs1_⟩
    refine AWp.hz [.run 1] 35 [(22, .rv (.sl 1 (f.sums.map intC))), (23, vi ((f.sums.length : Nat) : Int)), (24, vi ((k1_ : Nat) : Int)), (25, vb (decide (((k1_ : Nat) : Int) < ((f.sums.length : Nat) : Int))))] [] 1 ?_
    refine AWp.seq ?_
    refine AWp.cnd (decide (((k1_ : Nat) : Int) < ((f.sums.length : Nat) : Int))) (fun h7 => ?_) (fun h7 => ?_)
    ·
     have h7' := of_decide_eq_true h7
     refine AWp.skip ?_
     refine AWp.seq ?_
     refine AWp.block ?_
     obtain ⟨e1_, he1_⟩ := getEx (l := f.sums) (j := k1_) (by omega)
     refine AWp.hz [.idx intC f.sums 1 k1_ e1_ he1_, .run 2] 35 [(4, vi e1_), (22, .rv (.sl 1 (f.sums.map intC))), (23, vi ((f.sums.length : Nat) : Int)), (24, vi ((k1_ : Nat) : Int))] [] 1 ?_
     refine AWp.join (Z 35 [(22, .rv (.sl 1 (f.sums.map intC))), (23, vi ((f.sums.length : Nat) : Int)), (24, vi ((k1_ : Nat) : Int)), (33, vb (decide (e1_ < 0) || decide (e1_ > 4294967295)))] [] 1) ?_ ?_
     ·
      refine AWp.region ?_
      refine AOps.hg [.run 3] (decide (e1_ < 0)) 35 (fun b_ => [(4, vi e1_), (22, .rv (.sl 1 (f.sums.map intC))), (23, vi ((f.sums.length : Nat) : Int)), (24, vi ((k1_ : Nat) : Int)), (30, vb b_)]) [] 1 (fun hg8 => ?_) (fun hg8 => ?_)
      ·
       have hg8' := of_decide_eq_true hg8
       refine AOps.he [.run 3] 35 [(22, .rv (.sl 1 (f.sums.map intC))), (23, vi ((f.sums.length : Nat) : Int)), (24, vi ((k1_ : Nat) : Int)), (33, vb true)] [] 1 ?_
       exact leZ (by rw [hg8]; first | done | kernel_rfl)
      ·
       have hg8' := of_decide_eq_false hg8
       refine AOps.he [.run 3] 35 [(22, .rv (.sl 1 (f.sums.map intC))), (23, vi ((f.sums.length : Nat) : Int)), (24, vi ((k1_ : Nat) : Int)), (33, vb (decide (e1_ > 4294967295)))] [] 1 ?_
       exact leZ (by rw [hg8]; first | done | kernel_rfl)
     ·
      refine AWp.cnd ((decide (e1_ < 0) || decide (e1_ > 4294967295))) (fun h9 => ?_) (fun h9 => ?_)
      ·
       refine AWp.hz [.run 1] 35 [(2, vi 2)] [] 1 ?_
       refine AWp.ret ?_
       have hL1_ : fwCheckM_L1 f = some 2 := scanN_some hs1_ (by omega) (by unfold fwCheckM_B1; (try simp only [he1_]); (try rw [h7]); (try rw [h9]); first | done | kernel_rfl)
       exact leafR (r := vi 2) (by unfold fwCheckM; (try rw [h1]); (try rw [h5]); (try rw [hL1_]); first | done | kernel_rfl)
      ·
       have h9l := or_fl h9
       have h9l' := of_decide_eq_false h9l
       have h9r := or_fr h9
       have h9r' := of_decide_eq_false h9r
       refine AWp.skip ?_
       refine AWp.he [.cast (vi (IntKind.i64.wrap (((k1_ : Nat) : Int) + 1))) (vi ((k1_ + 1 : Nat) : Int)) (congrArg vi (wrap_nat (by omega))), .run 1] 35 [(22, .rv (.sl 1 (f.sums.map intC))), (23, vi ((f.sums.length : Nat) : Int)), (24, vi ((k1_ + 1 : Nat) : Int))] [] 1 ?_
       exact ⟨k1_ + 1, ⟨by omega, scanN_none hs1_ (by omega) (by unfold fwCheckM_B1; (try simp only [he1_]); (try rw [h7]); (try rw [h9]); first | done | kernel_rfl)⟩, by omega, leG⟩
    ·
     have h7' := of_decide_eq_false h7
     refine AWp.exit ?_
     have hL1_ : fwCheckM_L1 f = none := scanN_end hs1_ (by omega)
     refine AWp.hz [.run 1] 35 [(2, vi 0)] [] 1 ?_
     refine AWp.ret ?_
     exact leafR (r := vi 0) (by unfold fwCheckM; (try rw [h1]); (try rw [h5]); (try rw [hL1_]); first | done | kernel_rfl)
def rfwCheckM_B1 (f : Firmware) (k1_ : Nat) : Option Int :=
  (match (f.sums)[k1_]? with | some e1_ => (bif decide (e1_ < 0) then some 2 else (bif decide (e1_ > 4294967295) then some 2 else none)) | none => none)
def rfwCheckM_L1 (f : Firmware) : Option Int := scanN (rfwCheckM_B1 f) 0 f.sums.length
def rfwCheckM (f : Firmware) : Int :=
  (bif ((decide (f.vendor < 0) || (decide (f.vendor > 255) || decide (f.version < 1))) || decide (f.version > 65535)) then 2 else (bif (decide (((f.sums.length : Nat) : Int) < 1) || decide (((f.sums.length : Nat) : Int) > 64)) then 3 else (rfwCheckM_L1 f).getD 0))
def completeM (u : Update) (f : Firmware) : Bool :=
  ((u.status == 4) || ((u.status == 0) && (u.version == f.version)))
theorem completeM_ok (u : Update) (f : Firmware) :
 ACalls Try.prog G_ 37 [.agg (avs (Update.cells u)), .agg (avs (Firmware.cells f))] [] 0 (fun r τ => r = vb (completeM u f) ∧ τ = []) := by
 refine ACalls.body Try.func37 rfl 20 [(0, .agg (avs (Update.cells u))), (1, .agg (avs (Firmware.cells f)))] ?_
 refine AWp.hz [.run 3] 20 [(2, .ptr 0 0), (3, .ptr 1 0)] [(1, .box 28 (avs (Firmware.cells f))), (0, .box 54 (avs (Update.cells u)))] 2 ?_
 refine AWp.join (Z 20 [(4, vb ((u.status == 4) || ((u.status == 0) && (u.version == f.version))))] [] 2) ?_ ?_
 ·
  refine AWp.region ?_
  refine AOps.hg [.run 4] ((u.status == 4)) 20 (fun b_ => [(2, .ptr 0 0), (3, .ptr 1 0), (8, vb b_)]) [(1, .box 28 (avs (Firmware.cells f))), (0, .box 54 (avs (Update.cells u)))] 2 (fun hg1 => ?_) (fun hg1 => ?_)
  ·
   refine AOps.he [.run 12] 20 [(4, vb true)] [] 2 ?_
   exact leZ (by rw [hg1]; first | done | kernel_rfl)
  ·
   refine AOps.hg [.run 4] ((u.status == 0)) 20 (fun b_ => [(2, .ptr 0 0), (3, .ptr 1 0), (8, vb false), (12, vb b_)]) [(1, .box 28 (avs (Firmware.cells f))), (0, .box 54 (avs (Update.cells u)))] 2 (fun hg2 => ?_) (fun hg2 => ?_)
   ·
    refine AOps.he [.run 8] 20 [(4, vb (u.version == f.version))] [] 2 ?_
    exact leZ (by rw [hg1, hg2]; first | done | kernel_rfl)
   ·
    refine AOps.he [.run 8] 20 [(4, vb false)] [] 2 ?_
    exact leZ (by rw [hg1, hg2]; first | done | kernel_rfl)
 ·
  refine AWp.ret ?_
  exact leafR (r := vb ((u.status == 4) || ((u.status == 0) && (u.version == f.version)))) (by unfold completeM; first | done | kernel_rfl)
def rcompleteM (u : Update) (f : Firmware) : Bool :=
  ((u.status == 4) || ((u.status == 0) && (u.version == f.version)))
theorem rcompleteM_ok (u : Update) (f : Firmware) :
 ACalls Try.prog G_ 28 [.agg (avs (Update.cells u)), .agg (avs (Firmware.cells f))] [] 0 (fun r τ => r = vb (rcompleteM u f) ∧ τ = []) := by
 refine ACalls.body Try.func28 rfl 20 [(0, .agg (avs (Update.cells u))), (1, .agg (avs (Firmware.cells f)))] ?_
 refine AWp.hz [.run 3] 20 [(2, .ptr 0 0), (3, .ptr 1 0)] [(1, .box 28 (avs (Firmware.cells f))), (0, .box 54 (avs (Update.cells u)))] 2 ?_
 refine AWp.join (Z 20 [(4, vb ((u.status == 4) || ((u.status == 0) && (u.version == f.version))))] [] 2) ?_ ?_
 ·
  refine AWp.region ?_
  refine AOps.hg [.run 4] ((u.status == 4)) 20 (fun b_ => [(2, .ptr 0 0), (3, .ptr 1 0), (8, vb b_)]) [(1, .box 28 (avs (Firmware.cells f))), (0, .box 54 (avs (Update.cells u)))] 2 (fun hg1 => ?_) (fun hg1 => ?_)
  ·
   refine AOps.he [.run 12] 20 [(4, vb true)] [] 2 ?_
   exact leZ (by rw [hg1]; first | done | kernel_rfl)
  ·
   refine AOps.hg [.run 4] ((u.status == 0)) 20 (fun b_ => [(2, .ptr 0 0), (3, .ptr 1 0), (8, vb false), (12, vb b_)]) [(1, .box 28 (avs (Firmware.cells f))), (0, .box 54 (avs (Update.cells u)))] 2 (fun hg2 => ?_) (fun hg2 => ?_)
   ·
    refine AOps.he [.run 8] 20 [(4, vb (u.version == f.version))] [] 2 ?_
    exact leZ (by rw [hg1, hg2]; first | done | kernel_rfl)
   ·
    refine AOps.he [.run 8] 20 [(4, vb false)] [] 2 ?_
    exact leZ (by rw [hg1, hg2]; first | done | kernel_rfl)
 ·
  refine AWp.ret ?_
  exact leafR (r := vb ((u.status == 4) || ((u.status == 0) && (u.version == f.version)))) (by unfold rcompleteM; first | done | kernel_rfl)
def versionM_B1 (l : List Pair) (n : Int) (k1_ : Nat) : Option Int :=
  (match (l)[k1_]? with | some e1_ => (bif (e1_.a0 == n) then some (if 65535 < (if 0 > e1_.a1 then 0 else e1_.a1) then 65535 else (if 0 > e1_.a1 then 0 else e1_.a1)) else none) | none => none)
def versionM_L1 (l : List Pair) (n : Int) : Option Int := scanN (versionM_B1 l n) 0 l.length
def versionM (l : List Pair) (n : Int) : Int :=
  (versionM_L1 l n).getD 0
theorem versionM_ok (l : List Pair) (n : Int) :
 ACalls Try.prog G_ 32 [.rv (.sl 2 (l.map Pair.cells)), vi n] [] 0 (fun r τ => r = vi (versionM l n) ∧ τ = []) := by
 refine ACalls.body Try.func32 rfl 22 [(0, .rv (.sl 2 (l.map Pair.cells))), (1, vi n)] ?_
 refine AWp.hz [.run 1] 22 [(0, .rv (.sl 2 (l.map Pair.cells))), (1, vi n)] [] 0 ?_
 refine AWp.seq ?_
 refine AWp.hzl [.run 1, .len Pair.cells l 2, .run 1] 22 [(1, vi n), (7, .rv (.sl 2 (l.map Pair.cells))), (8, vi ((l.length : Nat) : Int)), (9, vi 0)] [] 0 (fun hl => ?_)
 obtain ⟨hn1, -⟩ := hl
 refine AWp.block ?_
 refine AWp.loop (ι := Nat) (fun k1_ => Z 22 [(1, vi n), (7, .rv (.sl 2 (l.map Pair.cells))), (8, vi ((l.length : Nat) : Int)), (9, vi ((k1_ : Nat) : Int))] [] 0) (fun k1_ => k1_ ≤ l.length ∧ versionM_L1 l n = scanN (versionM_B1 l n) k1_ (l.length - k1_)) (fun k1_ => l.length - k1_) 0 leZ ⟨Nat.zero_le _, rfl⟩ ?_
 intro k1_ ⟨hk1_, hs1_⟩
 refine AWp.hz [.run 1] 22 [(1, vi n), (7, .rv (.sl 2 (l.map Pair.cells))), (8, vi ((l.length : Nat) : Int)), (9, vi ((k1_ : Nat) : Int)), (10, vb (decide (((k1_ : Nat) : Int) < ((l.length : Nat) : Int))))] [] 0 ?_
 refine AWp.seq ?_
 refine AWp.cnd (decide (((k1_ : Nat) : Int) < ((l.length : Nat) : Int))) (fun h2 => ?_) (fun h2 => ?_)
 ·
  have h2' := of_decide_eq_true h2
  refine AWp.skip ?_
  refine AWp.seq ?_
  refine AWp.block ?_
  obtain ⟨e1_, he1_⟩ := getEx (l := l) (j := k1_) (by omega)
  refine AWp.hz [.idx Pair.cells l 2 k1_ e1_ he1_, .run 3] 22 [(1, vi n), (6, .ptr 0 0), (7, .rv (.sl 2 (l.map Pair.cells))), (8, vi ((l.length : Nat) : Int)), (9, vi ((k1_ : Nat) : Int))] [(0, .box 68 (avs (Pair.cells e1_)))] 1 ?_
  refine AWp.hz [.run 4] 22 [(1, vi n), (6, .ptr 0 0), (7, .rv (.sl 2 (l.map Pair.cells))), (8, vi ((l.length : Nat) : Int)), (9, vi ((k1_ : Nat) : Int)), (16, vb (e1_.a0 == n))] [(0, .box 68 (avs (Pair.cells e1_)))] 1 ?_
  refine AWp.cnd ((e1_.a0 == n)) (fun h3 => ?_) (fun h3 => ?_)
  ·
   refine AWp.hz [.run 2, .mnx true e1_.a1 0, .mnx false (if 0 > e1_.a1 then 0 else e1_.a1) 65535, .run 1] 22 [(4, vi (if 65535 < (if 0 > e1_.a1 then 0 else e1_.a1) then 65535 else (if 0 > e1_.a1 then 0 else e1_.a1)))] [] 1 ?_
   refine AWp.ret ?_
   have hL1_ : versionM_L1 l n = some (if 65535 < (if 0 > e1_.a1 then 0 else e1_.a1) then 65535 else (if 0 > e1_.a1 then 0 else e1_.a1)) := scanN_some hs1_ (by omega) (by unfold versionM_B1; (try simp only [he1_]); (try rw [h2]); (try rw [h3]); first | done | kernel_rfl)
   exact leafR (r := vi (if 65535 < (if 0 > e1_.a1 then 0 else e1_.a1) then 65535 else (if 0 > e1_.a1 then 0 else e1_.a1))) (by unfold versionM; (try rw [hL1_]); first | done | kernel_rfl)
  ·
   refine AWp.skip ?_
   refine AWp.he [.cast (vi (IntKind.i64.wrap (((k1_ : Nat) : Int) + 1))) (vi ((k1_ + 1 : Nat) : Int)) (congrArg vi (wrap_nat (by omega))), .run 1] 22 [(1, vi n), (7, .rv (.sl 2 (l.map Pair.cells))), (8, vi ((l.length : Nat) : Int)), (9, vi ((k1_ + 1 : Nat) : Int))] [] 1 ?_
   exact ⟨k1_ + 1, ⟨by omega, scanN_none hs1_ (by omega) (by unfold versionM_B1; (try simp only [he1_]); (try rw [h2]); (try rw [h3]); first | done | kernel_rfl)⟩, by omega, leG⟩
 ·
  have h2' := of_decide_eq_false h2
  refine AWp.exit ?_
  have hL1_ : versionM_L1 l n = none := scanN_end hs1_ (by omega)
  refine AWp.hz [.run 1] 22 [(4, vi 0)] [] 0 ?_
  refine AWp.ret ?_
  exact leafR (r := vi 0) (by unfold versionM; (try rw [hL1_]); first | done | kernel_rfl)
def waveM_B1 (n : Int) (x_ : Int × Int) : Step Unit (Int × Int) :=
  match x_ with
  | (a1_0, a1_1) => (bif decide (n ≥ IntKind.i64.wrap (IntKind.i64.wrap (2 * a1_1) + 1)) then .nxt (IntKind.i64.wrap (a1_0 + 1), IntKind.i64.wrap (IntKind.i64.wrap (2 * a1_1) + 1)) else .brk (a1_0, a1_1))
def waveM_L1 (n : Int) (x_ : Int × Int) : Int × Int := loopV (waveM_B1 n) 63 x_
def waveM (n : Int) : Int :=
  (waveM_L1 n (0, 0)).1
theorem waveM_aux (n : Int) (hn : n < 4611686018427387904) : ∀ (j : Nat) (w f : Int), (f + 1) * 2 ^ j = 4611686018427387904 → 0 ≤ f → endsW (waveM_B1 n) (j + 1) (w, f)
  | 0, w, f, h, h0 => by
    have hf : f + 1 = 4611686018427387904 := by simpa using h
    have e1 : IntKind.i64.wrap (2 * f) = 2 * f := wrap64_of _ (by omega) (by omega)
    have e2 : IntKind.i64.wrap (2 * f + 1) = 2 * f + 1 := wrap64_of _ (by omega) (by omega)
    have e3 : decide (n ≥ 2 * f + 1) = false := decide_eq_false (by omega)
    simp only [endsW, waveM_B1, e1, e2, e3, cond_false]
  | j + 1, w, f, h, h0 => by
    have h2 : (2 * f + 1 + 1) * 2 ^ j = 4611686018427387904 := by rw [← h, Int.pow_succ]; rw [show 2 * f + 1 + 1 = (f + 1) * 2 by omega, Int.mul_assoc, Int.mul_comm 2 (2 ^ j)]
    have hp : (0 : Int) < 2 ^ j := Int.pow_pos (by omega)
    have hb : (2 * f + 1 + 1) * 1 ≤ (2 * f + 1 + 1) * 2 ^ j := Int.mul_le_mul_of_nonneg_left (by omega) (by omega)
    have e1 : IntKind.i64.wrap (2 * f) = 2 * f := wrap64_of _ (by omega) (by omega)
    have e2 : IntKind.i64.wrap (2 * f + 1) = 2 * f + 1 := wrap64_of _ (by omega) (by omega)
    unfold endsW waveM_B1
    simp only [e1, e2]
    cases decide (n ≥ 2 * f + 1) with
    | true => exact waveM_aux n hn j _ _ h2 (by omega)
    | false => simp only [cond_false]
theorem waveM_ends (n : Int) (hn : n < 4611686018427387904) : endsW (waveM_B1 n) 63 (0, 0) := waveM_aux n hn 62 0 0 (by decide) (by omega)
theorem waveM_ok (n : Int) (hn : n < 4611686018427387904) :
 ACalls Try.prog G_ 38 [vi n] [] 0 (fun r τ => r = vi (waveM n) ∧ τ = []) := by
 refine ACalls.body Try.func38 rfl 16 [(0, vi n)] ?_
 refine AWp.hz [.run 1] 16 [(0, vi n)] [] 0 ?_
 refine AWp.hz [.run 1] 16 [(0, vi n), (3, vi 0)] [] 0 ?_
 refine AWp.seq ?_
 refine AWp.hz [.run 1] 16 [(0, vi n), (3, vi 0), (4, vi 0)] [] 0 ?_
 refine AWp.joinE1 (A := Int × Int) (fun x_ => Z 16 [(3, vi x_.1)] [] 0) (fun x_ => x_ = (waveM_L1 n (0, 0))) ?_ ?_
 ·
  refine AWp.block ?_
  refine AWp.loop (ι := Nat × (Int × Int)) (fun x_ => Z 16 [(0, vi n), (3, vi x_.2.1), (4, vi x_.2.2)] [] 0) (fun x_ => (loopW (waveM_B1 n) 63 (0, 0) = loopW (waveM_B1 n) x_.1 x_.2 ∧ endsW (waveM_B1 n) x_.1 x_.2)) (fun x_ => x_.1) (63, (0, 0)) leZ ⟨rfl, waveM_ends n hn⟩ ?_
  rintro ⟨n1_, ⟨a1_0, a1_1⟩⟩ hs1_
  try dsimp only at hs1_
  refine AWp.cv 16 [(0, vi n), (3, vi a1_0), (4, vi a1_1)] [] 0 ?_
  refine AWp.seq ?_
  refine AWp.hz [.run 5] 16 [(0, vi n), (3, vi a1_0), (4, vi a1_1), (9, vb (decide (n ≥ IntKind.i64.wrap (IntKind.i64.wrap (2 * a1_1) + 1))))] [] 0 ?_
  refine AWp.cnd (decide (n ≥ IntKind.i64.wrap (IntKind.i64.wrap (2 * a1_1) + 1))) (fun h1 => ?_) (fun h1 => ?_)
  ·
   have h1' := of_decide_eq_true h1
   refine AWp.skip ?_
   refine AWp.seq ?_
   refine AWp.block ?_
   refine AWp.he [.run 3] 16 [(0, vi n), (3, vi (IntKind.i64.wrap (a1_0 + 1))), (4, vi a1_1)] [] 0 ?_
   refine AWp.he [.run 4] 16 [(0, vi n), (3, vi (IntKind.i64.wrap (a1_0 + 1))), (4, vi (IntKind.i64.wrap (IntKind.i64.wrap (2 * a1_1) + 1)))] [] 0 ?_
   obtain ⟨m1_, rfl, hm1_⟩ := loopW_next (a' := (IntKind.i64.wrap (a1_0 + 1), IntKind.i64.wrap (IntKind.i64.wrap (2 * a1_1) + 1))) hs1_ (by unfold waveM_B1; (try dsimp only); (try rw [h1]); first | done | kernel_rfl)
   exact ⟨(m1_, (IntKind.i64.wrap (a1_0 + 1), IntKind.i64.wrap (IntKind.i64.wrap (2 * a1_1) + 1))), hm1_, Nat.lt_succ_self _, leG⟩
  ·
   have h1' := of_decide_eq_false h1
   refine AWp.exit ?_
   have hq1_ := loopW_brk (a' := (a1_0, a1_1)) hs1_ (by unfold waveM_B1; (try dsimp only); (try rw [h1]); first | done | kernel_rfl)
   exact ⟨(a1_0, a1_1), loopV_of hq1_, leG⟩
 ·
  rintro _ rfl
  refine AWp.hz [.run 2] 16 [(2, vi ((waveM_L1 n (0, 0)).1))] [] 0 ?_
  refine AWp.ret ?_
  exact leafR (r := vi ((waveM_L1 n (0, 0)).1)) (by unfold waveM; first | done | kernel_rfl)
def ofM_B1 (n : Int) (x_ : Int × Int × Int) : Step Unit (Int × Int × Int) :=
  match x_ with
  | (a1_0, a1_1, a1_2) => (bif decide (n ≥ a1_2) then .nxt (IntKind.i64.wrap (a1_0 + 1), IntKind.i64.wrap (a1_1 * 2), IntKind.i64.wrap (a1_2 + IntKind.i64.wrap (a1_1 * 2))) else .brk (a1_0, a1_1, a1_2))
def ofM_L1 (n : Int) (x_ : Int × Int × Int) : Int × Int × Int := loopV (ofM_B1 n) 63 x_
def ofM (n : Int) : Int :=
  (ofM_L1 n (0, 1, 1)).1
theorem ofM_aux (n : Int) (hn : n < 4611686018427387904) : ∀ (j : Nat) (w z e : Int), z * 2 ^ j = 4611686018427387904 → 1 ≤ z → e = 2 * z - 1 → endsW (ofM_B1 n) (j + 1) (w, z, e)
  | 0, w, z, e, h, h0, he => by
    have hf : z = 4611686018427387904 := by simpa using h
    have e3 : decide (n ≥ e) = false := decide_eq_false (by omega)
    simp only [endsW, ofM_B1, e3, cond_false]
  | j + 1, w, z, e, h, h0, he => by
    have h2 : (z * 2) * 2 ^ j = 4611686018427387904 := by rw [← h, Int.pow_succ, Int.mul_assoc, Int.mul_comm 2 (2 ^ j)]
    have hp : (0 : Int) < 2 ^ j := Int.pow_pos (by omega)
    have hb : (z * 2) * 1 ≤ (z * 2) * 2 ^ j := Int.mul_le_mul_of_nonneg_left (by omega) (by omega)
    have e1 : IntKind.i64.wrap (z * 2) = z * 2 := wrap64_of _ (by omega) (by omega)
    have e2 : IntKind.i64.wrap (e + z * 2) = e + z * 2 := wrap64_of _ (by omega) (by omega)
    unfold endsW ofM_B1
    simp only [e1, e2]
    cases decide (n ≥ e) with
    | true => exact ofM_aux n hn j _ _ _ h2 (by omega) (by omega)
    | false => simp only [cond_false]
theorem ofM_ends (n : Int) (hn : n < 4611686018427387904) : endsW (ofM_B1 n) 63 (0, 1, 1) := ofM_aux n hn 62 0 1 1 (by decide) (by omega) (by omega)
theorem ofM_ok (n : Int) (hn : n < 4611686018427387904) :
 ACalls Try.prog G_ 21 [vi n] [] 0 (fun r τ => r = vi (ofM n) ∧ τ = []) := by
 refine ACalls.body Try.func21 rfl 17 [(0, vi n)] ?_
 refine AWp.hz [.run 1] 17 [(0, vi n)] [] 0 ?_
 refine AWp.hz [.run 3] 17 [(0, vi n), (3, vi 0), (4, vi 1), (5, vi 1)] [] 0 ?_
 refine AWp.joinE (A := Int × Int × Int) (fun x_ => Z 17 [(3, vi x_.1)] [] 0) (fun x_ => x_ = (ofM_L1 n (0, 1, 1))) ?_ ?_
 ·
  refine AWp.block ?_
  refine AWp.loop (ι := Nat × (Int × Int × Int)) (fun x_ => Z 17 [(0, vi n), (3, vi x_.2.1), (4, vi x_.2.2.1), (5, vi x_.2.2.2)] [] 0) (fun x_ => (loopW (ofM_B1 n) 63 (0, 1, 1) = loopW (ofM_B1 n) x_.1 x_.2 ∧ endsW (ofM_B1 n) x_.1 x_.2)) (fun x_ => x_.1) (63, (0, 1, 1)) leZ ⟨rfl, ofM_ends n hn⟩ ?_
  rintro ⟨n1_, ⟨a1_0, a1_1, a1_2⟩⟩ hs1_
  try dsimp only at hs1_
  refine AWp.cv 17 [(0, vi n), (3, vi a1_0), (4, vi a1_1), (5, vi a1_2)] [] 0 ?_
  refine AWp.seq ?_
  refine AWp.hz [.run 3] 17 [(0, vi n), (3, vi a1_0), (4, vi a1_1), (5, vi a1_2), (8, vb (decide (n ≥ a1_2)))] [] 0 ?_
  refine AWp.cnd (decide (n ≥ a1_2)) (fun h1 => ?_) (fun h1 => ?_)
  ·
   have h1' := of_decide_eq_true h1
   refine AWp.skip ?_
   refine AWp.block ?_
   refine AWp.hz [.run 3] 17 [(0, vi n), (3, vi (IntKind.i64.wrap (a1_0 + 1))), (4, vi a1_1), (5, vi a1_2)] [] 0 ?_
   refine AWp.hz [.run 3] 17 [(0, vi n), (3, vi (IntKind.i64.wrap (a1_0 + 1))), (4, vi (IntKind.i64.wrap (a1_1 * 2))), (5, vi a1_2)] [] 0 ?_
   refine AWp.he [.run 4] 17 [(0, vi n), (3, vi (IntKind.i64.wrap (a1_0 + 1))), (4, vi (IntKind.i64.wrap (a1_1 * 2))), (5, vi (IntKind.i64.wrap (a1_2 + IntKind.i64.wrap (a1_1 * 2))))] [] 0 ?_
   obtain ⟨m1_, rfl, hm1_⟩ := loopW_next (a' := (IntKind.i64.wrap (a1_0 + 1), IntKind.i64.wrap (a1_1 * 2), IntKind.i64.wrap (a1_2 + IntKind.i64.wrap (a1_1 * 2)))) hs1_ (by unfold ofM_B1; (try dsimp only); (try rw [h1]); first | done | kernel_rfl)
   exact ⟨(m1_, (IntKind.i64.wrap (a1_0 + 1), IntKind.i64.wrap (a1_1 * 2), IntKind.i64.wrap (a1_2 + IntKind.i64.wrap (a1_1 * 2)))), hm1_, Nat.lt_succ_self _, leG⟩
  ·
   have h1' := of_decide_eq_false h1
   refine AWp.exit ?_
   have hq1_ := loopW_brk (a' := (a1_0, a1_1, a1_2)) hs1_ (by unfold ofM_B1; (try dsimp only); (try rw [h1]); first | done | kernel_rfl)
   exact ⟨(a1_0, a1_1, a1_2), loopV_of hq1_, leG⟩
 ·
  rintro _ rfl
  refine AWp.hz [.run 2] 17 [(2, vi ((ofM_L1 n (0, 1, 1)).1))] [] 0 ?_
  refine AWp.ret ?_
  exact leafR (r := vi ((ofM_L1 n (0, 1, 1)).1)) (by unfold ofM; first | done | kernel_rfl)
def samePairsM_B1 (a b : List Pair) (k1_ : Nat) : Option Bool :=
  (match (a)[k1_]? with | some e1_ => (match (b)[k1_]? with | some e2_ => (bif !((e1_.a0 == e2_.a0) && ((e1_.a1 == e2_.a1) && true)) then some false else none) | none => none) | none => none)
def samePairsM_L1 (a b : List Pair) : Option Bool := scanN (samePairsM_B1 a b) 0 a.length
def samePairsM (a b : List Pair) : Bool :=
  (bif (((a.length : Nat) : Int) != ((b.length : Nat) : Int)) then false else (samePairsM_L1 a b).getD true)
theorem samePairsM_ok (a b : List Pair) :
 ACalls Try.prog G_ 18 [.rv (.sl 2 (a.map Pair.cells)), .rv (.sl 2 (b.map Pair.cells))] [] 0 (fun r τ => r = vb (samePairsM a b) ∧ τ = []) := by
 refine ACalls.body Try.func18 rfl 26 [(0, .rv (.sl 2 (a.map Pair.cells))), (1, .rv (.sl 2 (b.map Pair.cells)))] ?_
 refine AWp.hz [.run 1] 26 [(0, .rv (.sl 2 (a.map Pair.cells))), (1, .rv (.sl 2 (b.map Pair.cells)))] [] 0 ?_
 refine AWp.seq ?_
 refine AWp.hzl [.run 1, .len Pair.cells a 2, .run 1, .len Pair.cells b 2, .run 1] 26 [(0, .rv (.sl 2 (a.map Pair.cells))), (1, .rv (.sl 2 (b.map Pair.cells))), (10, vb (((a.length : Nat) : Int) != ((b.length : Nat) : Int)))] [] 0 (fun hl => ?_)
 obtain ⟨hn1, hn2, -⟩ := hl
 refine AWp.cnd ((((a.length : Nat) : Int) != ((b.length : Nat) : Int))) (fun h3 => ?_) (fun h3 => ?_)
 ·
  have h3' := bne_t h3
  refine AWp.hz [.run 1] 26 [(4, vb false)] [] 0 ?_
  refine AWp.ret ?_
  exact leafR (r := vb false) (by unfold samePairsM; (try rw [h3]); first | done | kernel_rfl)
 ·
  have h3' := bne_f h3
  refine AWp.skip ?_
  refine AWp.seq ?_
  refine AWp.hzl [.run 1, .len Pair.cells a 2, .run 1] 26 [(0, .rv (.sl 2 (a.map Pair.cells))), (1, .rv (.sl 2 (b.map Pair.cells))), (12, vi ((a.length : Nat) : Int)), (13, vi 0)] [] 0 (fun hl => ?_)
  obtain ⟨hn4, -⟩ := hl
  refine AWp.block ?_
  refine AWp.loop (ι := Nat) (fun k1_ => Z 26 [(0, .rv (.sl 2 (a.map Pair.cells))), (1, .rv (.sl 2 (b.map Pair.cells))), (12, vi ((a.length : Nat) : Int)), (13, vi ((k1_ : Nat) : Int))] [] 0) (fun k1_ => k1_ ≤ a.length ∧ samePairsM_L1 a b = scanN (samePairsM_B1 a b) k1_ (a.length - k1_)) (fun k1_ => a.length - k1_) 0 leZ ⟨Nat.zero_le _, rfl⟩ ?_
  intro k1_ ⟨hk1_, hs1_⟩
  refine AWp.hz [.run 1] 26 [(0, .rv (.sl 2 (a.map Pair.cells))), (1, .rv (.sl 2 (b.map Pair.cells))), (12, vi ((a.length : Nat) : Int)), (13, vi ((k1_ : Nat) : Int)), (14, vb (decide (((k1_ : Nat) : Int) < ((a.length : Nat) : Int))))] [] 0 ?_
  refine AWp.seq ?_
  refine AWp.cnd (decide (((k1_ : Nat) : Int) < ((a.length : Nat) : Int))) (fun h5 => ?_) (fun h5 => ?_)
  ·
   have h5' := of_decide_eq_true h5
   refine AWp.skip ?_
   refine AWp.seq ?_
   refine AWp.block ?_
   refine AWp.hz [.run 2] 26 [(0, .rv (.sl 2 (a.map Pair.cells))), (1, .rv (.sl 2 (b.map Pair.cells))), (5, vi ((k1_ : Nat) : Int)), (12, vi ((a.length : Nat) : Int)), (13, vi ((k1_ : Nat) : Int))] [] 0 ?_
   obtain ⟨e1_, he1_⟩ := getEx (l := a) (j := k1_) (by omega)
   obtain ⟨e2_, he2_⟩ := getEx (l := b) (j := k1_) (by omega)
   refine AWp.dz [.rv (.sl 2 (a.map Pair.cells)), vi ((k1_ : Nat) : Int), .rv (.ptr (Pair.cells e1_)), .agg (avs (Pair.cells e1_)), .rv (.sl 2 (b.map Pair.cells)), vi ((k1_ : Nat) : Int), .rv (.ptr (Pair.cells e2_)), .agg (avs (Pair.cells e2_)), vb (!((e1_.a0 == e2_.a0) && ((e1_.a1 == e2_.a1) && true)))] 26 [(0, .rv (.sl 2 (a.map Pair.cells))), (1, .rv (.sl 2 (b.map Pair.cells))), (12, vi ((a.length : Nat) : Int)), (13, vi ((k1_ : Nat) : Int)), (24, vb (!((e1_.a0 == e2_.a0) && ((e1_.a1 == e2_.a1) && true))))] [] 0 ?_ ?_
   ·
    refine DSteps.cons (DStep.va) ?_
    refine DSteps.cons (DStep.va) ?_
    refine DSteps.cons (DStep.vs (by kernel_rfl) (R_indexAddrM Pair.cells a 2 k1_ rfl (by kernel_rfl) (by kernel_rfl) (by kernel_rfl) he1_)) ?_
    refine DSteps.cons (DStep.va) ?_
    refine DSteps.cons (DStep.va) ?_
    refine DSteps.cons (DStep.va) ?_
    refine DSteps.cons (DStep.vs (by kernel_rfl) (R_indexAddrM Pair.cells b 2 k1_ rfl (by kernel_rfl) (by kernel_rfl) (by kernel_rfl) he2_)) ?_
    refine DSteps.cons (DStep.va) ?_
    refine DSteps.cons (DStep.va) ?_
    exact DSteps.nl
   refine AWp.cnd (!((e1_.a0 == e2_.a0) && ((e1_.a1 == e2_.a1) && true))) (fun h6 => ?_) (fun h6 => ?_)
   ·
    refine AWp.hz [.run 1] 26 [(4, vb false)] [] 0 ?_
    refine AWp.ret ?_
    have hL1_ : samePairsM_L1 a b = some false := scanN_some hs1_ (by omega) (by unfold samePairsM_B1; (try simp only [he1_]); (try simp only [he2_]); (try rw [h5]); (try rw [h6]); first | done | kernel_rfl)
    exact leafR (r := vb false) (by unfold samePairsM; (try rw [h3]); (try rw [hL1_]); first | done | kernel_rfl)
   ·
    refine AWp.skip ?_
    refine AWp.he [.cast (vi (IntKind.i64.wrap (((k1_ : Nat) : Int) + 1))) (vi ((k1_ + 1 : Nat) : Int)) (congrArg vi (wrap_nat (by omega))), .run 1] 26 [(0, .rv (.sl 2 (a.map Pair.cells))), (1, .rv (.sl 2 (b.map Pair.cells))), (12, vi ((a.length : Nat) : Int)), (13, vi ((k1_ + 1 : Nat) : Int))] [] 0 ?_
    exact ⟨k1_ + 1, ⟨by omega, scanN_none hs1_ (by omega) (by unfold samePairsM_B1; (try simp only [he1_]); (try simp only [he2_]); (try rw [h5]); (try rw [h6]); first | done | kernel_rfl)⟩, by omega, leG⟩
  ·
   have h5' := of_decide_eq_false h5
   refine AWp.exit ?_
   have hL1_ : samePairsM_L1 a b = none := scanN_end hs1_ (by omega)
   refine AWp.hz [.run 1] 26 [(4, vb true)] [] 0 ?_
   refine AWp.ret ?_
   exact leafR (r := vb true) (by unfold samePairsM; (try rw [h3]); (try rw [hL1_]); first | done | kernel_rfl)
def numbersM (d : Dev) : Bool :=
  (bif ((decide (d.id < 1) || (decide (d.id > 250) || decide (d.vendor < 0))) || decide (d.vendor > 255)) then false else (bif d.sleepy then (decide (d.poll ≥ 4) && decide (d.poll ≤ 3600)) else (d.poll == 0)))
theorem numbersM_ok (d : Dev) :
 ACalls Try.prog G_ 56 [.agg (avs (Dev.cells d))] [] 0 (fun r τ => r = vb (numbersM d) ∧ τ = []) := by
 refine ACalls.body Try.func56 rfl 34 [(0, .agg (avs (Dev.cells d)))] ?_
 refine AWp.hz [.run 2] 34 [(1, .ptr 0 0)] [(0, .box 49 (avs (Dev.cells d)))] 1 ?_
 refine AWp.seq ?_
 refine AWp.join (Z 34 [(1, .ptr 0 0), (20, vb ((decide (d.id < 1) || (decide (d.id > 250) || decide (d.vendor < 0))) || decide (d.vendor > 255)))] [(0, .box 49 (avs (Dev.cells d)))] 1) ?_ ?_
 ·
  refine AWp.region ?_
  refine AOps.hg [.run 4] (decide (d.id < 1)) 34 (fun b_ => [(1, .ptr 0 0), (6, vb b_)]) [(0, .box 49 (avs (Dev.cells d)))] 1 (fun hg1 => ?_) (fun hg1 => ?_)
  ·
   have hg1' := of_decide_eq_true hg1
   refine AOps.he [.run 14] 34 [(1, .ptr 0 0), (20, vb true)] [(0, .box 49 (avs (Dev.cells d)))] 1 ?_
   exact leZ (by rw [hg1]; first | done | kernel_rfl)
  ·
   have hg1' := of_decide_eq_false hg1
   refine AOps.hg [.run 5] (decide (d.id > 250)) 34 (fun b_ => [(1, .ptr 0 0), (11, vb b_)]) [(0, .box 49 (avs (Dev.cells d)))] 1 (fun hg2 => ?_) (fun hg2 => ?_)
   ·
    have hg2' := of_decide_eq_true hg2
    refine AOps.he [.run 9] 34 [(1, .ptr 0 0), (20, vb true)] [(0, .box 49 (avs (Dev.cells d)))] 1 ?_
    exact leZ (by rw [hg1, hg2]; first | done | kernel_rfl)
   ·
    have hg2' := of_decide_eq_false hg2
    refine AOps.hg [.run 5] (decide (d.vendor < 0)) 34 (fun b_ => [(1, .ptr 0 0), (16, vb b_)]) [(0, .box 49 (avs (Dev.cells d)))] 1 (fun hg3 => ?_) (fun hg3 => ?_)
    ·
     have hg3' := of_decide_eq_true hg3
     refine AOps.he [.run 4] 34 [(1, .ptr 0 0), (20, vb true)] [(0, .box 49 (avs (Dev.cells d)))] 1 ?_
     exact leZ (by rw [hg1, hg2, hg3]; first | done | kernel_rfl)
    ·
     have hg3' := of_decide_eq_false hg3
     refine AOps.he [.run 4] 34 [(1, .ptr 0 0), (20, vb (decide (d.vendor > 255)))] [(0, .box 49 (avs (Dev.cells d)))] 1 ?_
     exact leZ (by rw [hg1, hg2, hg3]; first | done | kernel_rfl)
 ·
  refine AWp.cnd (((decide (d.id < 1) || (decide (d.id > 250) || decide (d.vendor < 0))) || decide (d.vendor > 255))) (fun h4 => ?_) (fun h4 => ?_)
  ·
   refine AWp.hz [.run 1] 34 [(2, vb false)] [] 1 ?_
   refine AWp.ret ?_
   exact leafR (r := vb false) (by unfold numbersM; (try rw [h4]); first | done | kernel_rfl)
  ·
   have h4l := or_fl h4
   have h4ll := or_fl h4l
   have h4ll' := of_decide_eq_false h4ll
   have h4lr := or_fr h4l
   have h4lrl := or_fl h4lr
   have h4lrl' := of_decide_eq_false h4lrl
   have h4lrr := or_fr h4lr
   have h4lrr' := of_decide_eq_false h4lrr
   have h4r := or_fr h4
   have h4r' := of_decide_eq_false h4r
   refine AWp.skip ?_
   refine AWp.seq ?_
   refine AWp.hz [.run 2] 34 [(1, .ptr 0 0), (22, vb d.sleepy)] [(0, .box 49 (avs (Dev.cells d)))] 1 ?_
   refine AWp.cnd (d.sleepy) (fun h5 => ?_) (fun h5 => ?_)
   ·
    refine AWp.join (Z 34 [(2, vb (decide (d.poll ≥ 4) && decide (d.poll ≤ 3600)))] [] 1) ?_ ?_
    ·
     refine AWp.region ?_
     refine AOps.hg [.run 4] (decide (d.poll ≥ 4)) 34 (fun b_ => [(1, .ptr 0 0), (26, vb b_)]) [(0, .box 49 (avs (Dev.cells d)))] 1 (fun hg6 => ?_) (fun hg6 => ?_)
     ·
      have hg6' := of_decide_eq_true hg6
      refine AOps.he [.run 5] 34 [(2, vb (decide (d.poll ≤ 3600)))] [] 1 ?_
      exact leZ (by rw [hg6]; first | done | kernel_rfl)
     ·
      have hg6' := of_decide_eq_false hg6
      refine AOps.he [.run 5] 34 [(2, vb false)] [] 1 ?_
      exact leZ (by rw [hg6]; first | done | kernel_rfl)
    ·
     refine AWp.ret ?_
     exact leafR (r := vb (decide (d.poll ≥ 4) && decide (d.poll ≤ 3600))) (by unfold numbersM; (try rw [h4]); (try rw [h5]); first | done | kernel_rfl)
   ·
    refine AWp.skip ?_
    refine AWp.hz [.run 4] 34 [(2, vb (d.poll == 0))] [] 1 ?_
    refine AWp.ret ?_
    exact leafR (r := vb (d.poll == 0)) (by unfold numbersM; (try rw [h4]); (try rw [h5]); first | done | kernel_rfl)
def stopped1M (u : Update) : Bool :=
  (u.status == 5)
theorem stopped1M_ok (u : Update) :
 ACalls Try.prog G_ 40 [.agg (avs (Update.cells u))] [] 0 (fun r τ => r = vb (stopped1M u) ∧ τ = []) := by
 refine ACalls.body Try.func40 rfl 6 [(0, .agg (avs (Update.cells u)))] ?_
 refine AWp.hz [.run 2] 6 [(1, .ptr 0 0)] [(0, .box 54 (avs (Update.cells u)))] 1 ?_
 refine AWp.hz [.run 4] 6 [(2, vb (u.status == 5))] [] 1 ?_
 refine AWp.ret ?_
 exact leafR (r := vb (u.status == 5)) (by unfold stopped1M; first | done | kernel_rfl)
end Go.Proofs.Ytjgpnceaicijcaa
