/- Rollout: the small functions. -/
import Derived.Test.YtjgpnceaicijcaaPA7
import Derived.Test.YtjgpnceaicijcaaPNg
namespace Go.Proofs.Ytjgpnceaicijcaa
open Go Go.Av Go.Hh Go.Proofs
set_option maxRecDepth 100000
set_option maxHeartbeats 4000000
def limitM (n : Int) : Int :=
  (if 1099511627776 < (if 0 > n then 0 else n) then 1099511627776 else (if 0 > n then 0 else n))
theorem limitM_ok (n : Int) :
 ACalls Try.prog G_ 42 [vi n] [] 0 (fun r τ => r = vi (limitM n) ∧ τ = []) := by
 refine ACalls.body Try.func42 rfl 6 [(0, vi n)] ?_
 refine AWp.hz [.run 1] 6 [(0, vi n)] [] 0 ?_
 refine AWp.hz [.run 1, .mnx true n 0, .mnx false (if 0 > n then 0 else n) 1099511627776, .run 1] 6 [(2, vi (if 1099511627776 < (if 0 > n then 0 else n) then 1099511627776 else (if 0 > n then 0 else n)))] [] 0 ?_
 refine AWp.ret ?_
 exact leafR (r := vi (if 1099511627776 < (if 0 > n then 0 else n) then 1099511627776 else (if 0 > n then 0 else n))) (by unfold limitM; first | done | kernel_rfl)
def tickM (n : Int) : Int :=
  (bif decide (n < 0) then 0 else (bif decide (n > 1099511627776) then 1099511627776 else n))
theorem tickM_ok (n : Int) :
 ACalls Try.prog G_ 68 [vi n] [] 0 (fun r τ => r = vi (tickM n) ∧ τ = []) := by
 refine ACalls.body Try.func68 rfl 8 [(0, vi n)] ?_
 refine AWp.hz [.run 1] 8 [(0, vi n)] [] 0 ?_
 refine AWp.seq ?_
 refine AWp.hz [.run 2] 8 [(0, vi n), (4, vb (decide (n < 0)))] [] 0 ?_
 refine AWp.cnd (decide (n < 0)) (fun h1 => ?_) (fun h1 => ?_)
 ·
  have h1' := of_decide_eq_true h1
  refine AWp.hz [.run 1] 8 [(2, vi 0)] [] 0 ?_
  refine AWp.ret ?_
  exact leafR (r := vi 0) (by unfold tickM; (try rw [h1]); first | done | kernel_rfl)
 ·
  have h1' := of_decide_eq_false h1
  refine AWp.skip ?_
  refine AWp.seq ?_
  refine AWp.hz [.run 2] 8 [(0, vi n), (6, vb (decide (n > 1099511627776)))] [] 0 ?_
  refine AWp.cnd (decide (n > 1099511627776)) (fun h2 => ?_) (fun h2 => ?_)
  ·
   have h2' := of_decide_eq_true h2
   refine AWp.hz [.run 1] 8 [(2, vi 1099511627776)] [] 0 ?_
   refine AWp.ret ?_
   exact leafR (r := vi 1099511627776) (by unfold tickM; (try rw [h1]); (try rw [h2]); first | done | kernel_rfl)
  ·
   have h2' := of_decide_eq_false h2
   refine AWp.skip ?_
   refine AWp.hz [.run 2] 8 [(2, vi n)] [] 0 ?_
   refine AWp.ret ?_
   exact leafR (r := vi n) (by unfold tickM; (try rw [h1]); (try rw [h2]); first | done | kernel_rfl)
def namedM (a b : Int) : Bool :=
  ((decide (a ≥ 0) && (decide (a ≤ 255) && decide (b ≥ 1))) && decide (b ≤ 65535))
theorem namedM_ok (a b : Int) :
 ACalls Try.prog G_ 59 [vi a, vi b] [] 0 (fun r τ => r = vb (namedM a b) ∧ τ = []) := by
 refine ACalls.body Try.func59 rfl 19 [(0, vi a), (1, vi b)] ?_
 refine AWp.hz [.run 1] 19 [(0, vi a), (1, vi b)] [] 0 ?_
 refine AWp.join (Z 19 [(4, vb ((decide (a ≥ 0) && (decide (a ≤ 255) && decide (b ≥ 1))) && decide (b ≤ 65535)))] [] 0) ?_ ?_
 ·
  refine AWp.region ?_
  refine AOps.hg [.run 3] (decide (a ≥ 0)) 19 (fun b_ => [(0, vi a), (1, vi b), (7, vb b_)]) [] 0 (fun hg1 => ?_) (fun hg1 => ?_)
  ·
   have hg1' := of_decide_eq_true hg1
   refine AOps.hg [.run 4] (decide (a ≤ 255)) 19 (fun b_ => [(1, vi b), (11, vb b_)]) [] 0 (fun hg2 => ?_) (fun hg2 => ?_)
   ·
    have hg2' := of_decide_eq_true hg2
    refine AOps.hg [.run 4] (decide (b ≥ 1)) 19 (fun b_ => [(1, vi b), (15, vb b_)]) [] 0 (fun hg3 => ?_) (fun hg3 => ?_)
    ·
     have hg3' := of_decide_eq_true hg3
     refine AOps.he [.run 4] 19 [(4, vb (decide (b ≤ 65535)))] [] 0 ?_
     exact leZ (by rw [hg1, hg2, hg3]; first | done | kernel_rfl)
    ·
     have hg3' := of_decide_eq_false hg3
     refine AOps.he [.run 4] 19 [(4, vb false)] [] 0 ?_
     exact leZ (by rw [hg1, hg2, hg3]; first | done | kernel_rfl)
   ·
    have hg2' := of_decide_eq_false hg2
    refine AOps.he [.run 8] 19 [(4, vb false)] [] 0 ?_
    exact leZ (by rw [hg1, hg2]; first | done | kernel_rfl)
  ·
   have hg1' := of_decide_eq_false hg1
   refine AOps.he [.run 12] 19 [(4, vb false)] [] 0 ?_
   exact leZ (by rw [hg1]; first | done | kernel_rfl)
 ·
  refine AWp.ret ?_
  exact leafR (r := vb ((decide (a ≥ 0) && (decide (a ≤ 255) && decide (b ≥ 1))) && decide (b ≤ 65535))) (by unfold namedM; first | done | kernel_rfl)
def fwCheckM_B1 (f : Firmware) (k1_ : Nat) : Option Int :=
  (match (f.sums)[k1_]? with | some e1_ => (bif (decide (e1_ < 0) || decide (e1_ > 4294967295)) then some 2 else none) | none => none)
def fwCheckM_L1 (f : Firmware) : Option Int := scanN (fwCheckM_B1 f) 0 f.sums.length
def fwCheckM (f : Firmware) : Int :=
  (bif !(namedM f.vendor f.version) then 2 else (bif (decide (((f.sums.length : Nat) : Int) < 1) || decide (((f.sums.length : Nat) : Int) > 64)) then 3 else (fwCheckM_L1 f).getD 0))
theorem fwCheckM_ok (f : Firmware) :
 ACalls Try.prog G_ 31 [.agg (avs (Firmware.cells f))] [] 0 (fun r τ => r = vi (fwCheckM f) ∧ τ = []) := by
 refine ACalls.body Try.func31 rfl 35 [(0, .agg (avs (Firmware.cells f)))] ?_
 refine AWp.hz [.run 2] 35 [(1, .ptr 0 0)] [(0, .box 28 (avs (Firmware.cells f)))] 1 ?_
 refine AWp.seq ?_
 refine AWp.hz [.run 4, .call 59 [vi f.vendor, vi f.version] (vb (namedM f.vendor f.version)) [] 0 (namedM_ok f.vendor f.version), .run 1] 35 [(1, .ptr 0 0), (10, vb (!(namedM f.vendor f.version)))] [(0, .box 28 (avs (Firmware.cells f)))] 1 ?_
 refine AWp.cnd (!(namedM f.vendor f.version)) (fun h1 => ?_) (fun h1 => ?_)
 ·
  refine AWp.hz [.run 1] 35 [(2, vi 2)] [] 1 ?_
  refine AWp.ret ?_
  exact leafR (r := vi 2) (by unfold fwCheckM; (try rw [h1]); first | done | kernel_rfl)
 ·
  refine AWp.skip ?_
  refine AWp.seq ?_
  refine AWp.join (Z 35 [(1, .ptr 0 0), (20, vb (decide (((f.sums.length : Nat) : Int) < 1) || decide (((f.sums.length : Nat) : Int) > 64)))] [(0, .box 28 (avs (Firmware.cells f)))] 1) ?_ ?_
  ·
   refine AWp.region ?_
   refine AOps.hzl [.run 2, .len intC f.sums 1, .run 2] 35 [(1, .ptr 0 0), (15, vb (decide (((f.sums.length : Nat) : Int) < 1)))] [(0, .box 28 (avs (Firmware.cells f)))] 1 (fun hl => ?_)
   obtain ⟨hn2, -⟩ := hl
   refine AOps.hg [] (decide (((f.sums.length : Nat) : Int) < 1)) 35 (fun b_ => [(1, .ptr 0 0), (15, vb b_)]) [(0, .box 28 (avs (Firmware.cells f)))] 1 (fun hg3 => ?_) (fun hg3 => ?_)
   ·
    have hg3' := of_decide_eq_true hg3
    refine AOps.he [.run 5] 35 [(1, .ptr 0 0), (20, vb true)] [(0, .box 28 (avs (Firmware.cells f)))] 1 ?_
    exact leZ (by rw [hg3]; first | done | kernel_rfl)
   ·
    have hg3' := of_decide_eq_false hg3
    refine AOps.hel [.run 2, .len intC f.sums 1, .run 2] 35 [(1, .ptr 0 0), (20, vb (decide (((f.sums.length : Nat) : Int) > 64)))] [(0, .box 28 (avs (Firmware.cells f)))] 1 (fun hl => ?_)
    obtain ⟨hn4, -⟩ := hl
    exact leZ (by rw [hg3]; first | done | kernel_rfl)
  ·
   refine AWp.cnd ((decide (((f.sums.length : Nat) : Int) < 1) || decide (((f.sums.length : Nat) : Int) > 64))) (fun h5 => ?_) (fun h5 => ?_)
   ·
    refine AWp.hz [.run 1] 35 [(2, vi 3)] [] 1 ?_
    refine AWp.ret ?_
    exact leafR (r := vi 3) (by unfold fwCheckM; (try rw [h1]); (try rw [h5]); first | done | kernel_rfl)
   ·
    have h5l := or_fl h5
    have h5l' := of_decide_eq_false h5l
    have h5r := or_fr h5
    have h5r' := of_decide_eq_false h5r
    refine AWp.skip ?_
    refine AWp.seq ?_
    refine AWp.hzl [.run 2, .len intC f.sums 1, .run 1] 35 [(22, .rv (.sl 1 (f.sums.map intC))), (23, vi ((f.sums.length : Nat) : Int)), (24, vi 0)] [] 1 (fun hl => ?_)
    obtain ⟨hn6, -⟩ := hl
    refine AWp.block ?_
    refine AWp.loop (ι := Nat) (fun k1_ => Z 35 [(22, .rv (.sl 1 (f.sums.map intC))), (23, vi ((f.sums.length : Nat) : Int)), (24, vi ((k1_ : Nat) : Int))] [] 1) (fun k1_ => k1_ ≤ f.sums.length ∧ fwCheckM_L1 f = scanN (fwCheckM_B1 f) k1_ (f.sums.length - k1_)) (fun k1_ => f.sums.length - k1_) 0 leZ ⟨Nat.zero_le _, rfl⟩ ?_
    intro k1_ ⟨hk1_, hs1_⟩
    refine AWp.hz [.run 1] 35 [(22, .rv (.sl 1 (f.sums.map intC))), (23, vi ((f.sums.length : Nat) : Int)), (24, vi ((k1_ : Nat) : Int)), (25, vb (decide (((k1_ : Nat) : Int) < ((f.sums.length : Nat) : Int))))] [] 1 ?_
    refine AWp.seq ?_
    refine AWp.cnd (decide (((k1_ : Nat) : Int) < ((f.sums.length : Nat) : Int))) (fun h7 => ?_) (fun h7 => ?_)
    ·
     have h7' := of_decide_eq_true h7
     refine AWp.skip ?_
     refine AWp.seq ?_
     refine AWp.block ?_
     obtain ⟨e1_, he1_⟩ := getEx (l := f.sums) (j := k1_) (by omega)
     refine AWp.hz [.idx intC f.sums 1 k1_ e1_ he1_, .run 2] 35 [(4, vi e1_), (22, .rv (.sl 1 (f.sums.map intC))), (23, vi ((f.sums.length : Nat) : Int)), (24, vi ((k1_ : Nat) : Int))] [] 1 ?_
     refine AWp.join (Z 35 [(22, .rv (.sl 1 (f.sums.map intC))), (23, vi ((f.sums.length : Nat) : Int)), (24, vi ((k1_ : Nat) : Int)), (33, vb (decide (e1_ < 0) || decide (e1_ > 4294967295)))] [] 1) ?_ ?_
     ·
      refine AWp.region ?_
      refine AOps.hg [.run 3] (decide (e1_ < 0)) 35 (fun b_ => [(4, vi e1_), (22, .rv (.sl 1 (f.sums.map intC))), (23, vi ((f.sums.length : Nat) : Int)), (24, vi ((k1_ : Nat) : Int)), (30, vb b_)]) [] 1 (fun hg8 => ?_) (fun hg8 => ?_)
      ·
       have hg8' := of_decide_eq_true hg8
       refine AOps.he [.run 3] 35 [(22, .rv (.sl 1 (f.sums.map intC))), (23, vi ((f.sums.length : Nat) : Int)), (24, vi ((k1_ : Nat) : Int)), (33, vb true)] [] 1 ?_
       exact leZ (by rw [hg8]; first | done | kernel_rfl)
      ·
       have hg8' := of_decide_eq_false hg8
       refine AOps.he [.run 3] 35 [(22, .rv (.sl 1 (f.sums.map intC))), (23, vi ((f.sums.length : Nat) : Int)), (24, vi ((k1_ : Nat) : Int)), (33, vb (decide (e1_ > 4294967295)))] [] 1 ?_
       exact leZ (by rw [hg8]; first | done | kernel_rfl)
     ·
      refine AWp.cnd ((decide (e1_ < 0) || decide (e1_ > 4294967295))) (fun h9 => ?_) (fun h9 => ?_)
      ·
       refine AWp.hz [.run 1] 35 [(2, vi 2)] [] 1 ?_
       refine AWp.ret ?_
       have hL1_ : fwCheckM_L1 f = some 2 := scanN_some hs1_ (by omega) (by unfold fwCheckM_B1; (try simp only [he1_]); (try rw [h7]); (try rw [h9]); first | done | kernel_rfl)
       exact leafR (r := vi 2) (by unfold fwCheckM; (try rw [h1]); (try rw [h5]); (try rw [hL1_]); first | done | kernel_rfl)
      ·
       have h9l := or_fl h9
       have h9l' := of_decide_eq_false h9l
       have h9r := or_fr h9
       have h9r' := of_decide_eq_false h9r
       refine AWp.skip ?_
       refine AWp.he [.cast (vi (IntKind.i64.wrap (((k1_ : Nat) : Int) + 1))) (vi ((k1_ + 1 : Nat) : Int)) (congrArg vi (wrap_nat (by omega))), .run 1] 35 [(22, .rv (.sl 1 (f.sums.map intC))), (23, vi ((f.sums.length : Nat) : Int)), (24, vi ((k1_ + 1 : Nat) : Int))] [] 1 ?_
       exact ⟨k1_ + 1, ⟨by omega, scanN_none hs1_ (by omega) (by unfold fwCheckM_B1; (try simp only [he1_]); (try rw [h7]); (try rw [h9]); first | done | kernel_rfl)⟩, by omega, leG⟩
    ·
     have h7' := of_decide_eq_false h7
     refine AWp.exit ?_
     have hL1_ : fwCheckM_L1 f = none := scanN_end hs1_ (by omega)
     refine AWp.hz [.run 1] 35 [(2, vi 0)] [] 1 ?_
     refine AWp.ret ?_
     exact leafR (r := vi 0) (by unfold fwCheckM; (try rw [h1]); (try rw [h5]); (try rw [hL1_]); first | done | kernel_rfl)
def rfwCheckM_B1 (f : Firmware) (k1_ : Nat) : Option Int :=
  (match (f.sums)[k1_]? with | some e1_ => (bif decide (e1_ < 0) then some 2 else (bif decide (e1_ > 4294967295) then some 2 else none)) | none => none)
def rfwCheckM_L1 (f : Firmware) : Option Int := scanN (rfwCheckM_B1 f) 0 f.sums.length
def rfwCheckM (f : Firmware) : Int :=
  (bif ((decide (f.vendor < 0) || (decide (f.vendor > 255) || decide (f.version < 1))) || decide (f.version > 65535)) then 2 else (bif (decide (((f.sums.length : Nat) : Int) < 1) || decide (((f.sums.length : Nat) : Int) > 64)) then 3 else (rfwCheckM_L1 f).getD 0))
theorem rfwCheckM_ok (f : Firmware) :
 ACalls Try.prog G_ 34 [.agg (avs (Firmware.cells f))] [] 0 (fun r τ => r = vi (rfwCheckM f) ∧ τ = []) := by
 refine ACalls.body Try.func34 rfl 53 [(0, .agg (avs (Firmware.cells f)))] ?_
 refine AWp.hz [.run 2] 53 [(1, .ptr 0 0)] [(0, .box 28 (avs (Firmware.cells f)))] 1 ?_
 refine AWp.seq ?_
 refine AWp.join (Z 53 [(1, .ptr 0 0), (21, vb ((decide (f.vendor < 0) || (decide (f.vendor > 255) || decide (f.version < 1))) || decide (f.version > 65535)))] [(0, .box 28 (avs (Firmware.cells f)))] 1) ?_ ?_
 ·
  refine AWp.region ?_
  refine AOps.hg [.run 4] (decide (f.vendor < 0)) 53 (fun b_ => [(1, .ptr 0 0), (7, vb b_)]) [(0, .box 28 (avs (Firmware.cells f)))] 1 (fun hg1 => ?_) (fun hg1 => ?_)
  ·
   have hg1' := of_decide_eq_true hg1
   refine AOps.he [.run 14] 53 [(1, .ptr 0 0), (21, vb true)] [(0, .box 28 (avs (Firmware.cells f)))] 1 ?_
   exact leZ (by rw [hg1]; first | done | kernel_rfl)
  ·
   have hg1' := of_decide_eq_false hg1
   refine AOps.hg [.run 5] (decide (f.vendor > 255)) 53 (fun b_ => [(1, .ptr 0 0), (12, vb b_)]) [(0, .box 28 (avs (Firmware.cells f)))] 1 (fun hg2 => ?_) (fun hg2 => ?_)
   ·
    have hg2' := of_decide_eq_true hg2
    refine AOps.he [.run 9] 53 [(1, .ptr 0 0), (21, vb true)] [(0, .box 28 (avs (Firmware.cells f)))] 1 ?_
    exact leZ (by rw [hg1, hg2]; first | done | kernel_rfl)
   ·
    have hg2' := of_decide_eq_false hg2
    refine AOps.hg [.run 5] (decide (f.version < 1)) 53 (fun b_ => [(1, .ptr 0 0), (17, vb b_)]) [(0, .box 28 (avs (Firmware.cells f)))] 1 (fun hg3 => ?_) (fun hg3 => ?_)
    ·
     have hg3' := of_decide_eq_true hg3
     refine AOps.he [.run 4] 53 [(1, .ptr 0 0), (21, vb true)] [(0, .box 28 (avs (Firmware.cells f)))] 1 ?_
     exact leZ (by rw [hg1, hg2, hg3]; first | done | kernel_rfl)
    ·
     have hg3' := of_decide_eq_false hg3
     refine AOps.he [.run 4] 53 [(1, .ptr 0 0), (21, vb (decide (f.version > 65535)))] [(0, .box 28 (avs (Firmware.cells f)))] 1 ?_
     exact leZ (by rw [hg1, hg2, hg3]; first | done | kernel_rfl)
 ·
  refine AWp.cnd (((decide (f.vendor < 0) || (decide (f.vendor > 255) || decide (f.version < 1))) || decide (f.version > 65535))) (fun h4 => ?_) (fun h4 => ?_)
  ·
   refine AWp.hz [.run 1] 53 [(2, vi 2)] [] 1 ?_
   refine AWp.ret ?_
   exact leafR (r := vi 2) (by unfold rfwCheckM; (try rw [h4]); first | done | kernel_rfl)
  ·
   have h4l := or_fl h4
   have h4ll := or_fl h4l
   have h4ll' := of_decide_eq_false h4ll
   have h4lr := or_fr h4l
   have h4lrl := or_fl h4lr
   have h4lrl' := of_decide_eq_false h4lrl
   have h4lrr := or_fr h4lr
   have h4lrr' := of_decide_eq_false h4lrr
   have h4r := or_fr h4
   have h4r' := of_decide_eq_false h4r
   refine AWp.skip ?_
   refine AWp.seq ?_
   refine AWp.join (Z 53 [(1, .ptr 0 0), (31, vb (decide (((f.sums.length : Nat) : Int) < 1) || decide (((f.sums.length : Nat) : Int) > 64)))] [(0, .box 28 (avs (Firmware.cells f)))] 1) ?_ ?_
   ·
    refine AWp.region ?_
    refine AOps.hzl [.run 2, .len intC f.sums 1, .run 2] 53 [(1, .ptr 0 0), (26, vb (decide (((f.sums.length : Nat) : Int) < 1)))] [(0, .box 28 (avs (Firmware.cells f)))] 1 (fun hl => ?_)
    obtain ⟨hn5, -⟩ := hl
    refine AOps.hg [] (decide (((f.sums.length : Nat) : Int) < 1)) 53 (fun b_ => [(1, .ptr 0 0), (26, vb b_)]) [(0, .box 28 (avs (Firmware.cells f)))] 1 (fun hg6 => ?_) (fun hg6 => ?_)
    ·
     have hg6' := of_decide_eq_true hg6
     refine AOps.he [.run 5] 53 [(1, .ptr 0 0), (31, vb true)] [(0, .box 28 (avs (Firmware.cells f)))] 1 ?_
     exact leZ (by rw [hg6]; first | done | kernel_rfl)
    ·
     have hg6' := of_decide_eq_false hg6
     refine AOps.hel [.run 2, .len intC f.sums 1, .run 2] 53 [(1, .ptr 0 0), (31, vb (decide (((f.sums.length : Nat) : Int) > 64)))] [(0, .box 28 (avs (Firmware.cells f)))] 1 (fun hl => ?_)
     obtain ⟨hn7, -⟩ := hl
     exact leZ (by rw [hg6]; first | done | kernel_rfl)
   ·
    refine AWp.cnd ((decide (((f.sums.length : Nat) : Int) < 1) || decide (((f.sums.length : Nat) : Int) > 64))) (fun h8 => ?_) (fun h8 => ?_)
    ·
     refine AWp.hz [.run 1] 53 [(2, vi 3)] [] 1 ?_
     refine AWp.ret ?_
     exact leafR (r := vi 3) (by unfold rfwCheckM; (try rw [h4]); (try rw [h8]); first | done | kernel_rfl)
    ·
     have h8l := or_fl h8
     have h8l' := of_decide_eq_false h8l
     have h8r := or_fr h8
     have h8r' := of_decide_eq_false h8r
     refine AWp.skip ?_
     refine AWp.seq ?_
     refine AWp.hz [.run 1] 53 [(1, .ptr 0 0), (3, vi 0)] [(0, .box 28 (avs (Firmware.cells f)))] 1 ?_
     refine AWp.block ?_
     refine AWp.loop (ι := Nat) (fun k1_ => Z 53 [(1, .ptr 0 0), (3, vi ((k1_ : Nat) : Int))] [(0, .box 28 (avs (Firmware.cells f)))] 1) (fun k1_ => k1_ ≤ f.sums.length ∧ rfwCheckM_L1 f = scanN (rfwCheckM_B1 f) k1_ (f.sums.length - k1_)) (fun k1_ => f.sums.length - k1_) 0 leZ ⟨Nat.zero_le _, rfl⟩ ?_
     intro k1_ ⟨hk1_, hs1_⟩
     refine AWp.seq ?_
     refine AWp.hzl [.run 3, .len intC f.sums 1, .run 1] 53 [(1, .ptr 0 0), (3, vi ((k1_ : Nat) : Int)), (36, vb (decide (((k1_ : Nat) : Int) < ((f.sums.length : Nat) : Int))))] [(0, .box 28 (avs (Firmware.cells f)))] 1 (fun hl => ?_)
     obtain ⟨hn9, -⟩ := hl
     refine AWp.cnd (decide (((k1_ : Nat) : Int) < ((f.sums.length : Nat) : Int))) (fun h10 => ?_) (fun h10 => ?_)
     ·
      have h10' := of_decide_eq_true h10
      refine AWp.skip ?_
      refine AWp.seq ?_
      refine AWp.block ?_
      obtain ⟨e1_, he1_⟩ := getEx (l := f.sums) (j := k1_) (by omega)
      refine AWp.rg ?_
      refine AOps.hg [.run 3, .idx intC f.sums 1 k1_ e1_ he1_, .run 3] (decide (e1_ < 0)) 53 (fun b_ => [(1, .ptr 0 0), (3, vi ((k1_ : Nat) : Int)), (45, vb b_)]) [(0, .box 28 (avs (Firmware.cells f)))] 1 (fun hg11 => ?_) (fun hg11 => ?_)
      ·
       have hg11' := of_decide_eq_true hg11
       refine AOps.he [.run 7] 53 [(1, .ptr 0 0), (3, vi ((k1_ : Nat) : Int)), (52, vb true)] [(0, .box 28 (avs (Firmware.cells f)))] 1 ?_
       refine AWp.cndT ?_
       refine AWp.hz [.run 1] 53 [(2, vi 2)] [] 1 ?_
       refine AWp.ret ?_
       have hL1_ : rfwCheckM_L1 f = some 2 := scanN_some hs1_ (by omega) (by unfold rfwCheckM_B1; (try simp only [he1_]); (try rw [h10]); (try rw [hg11]); first | done | kernel_rfl)
       exact leafR (r := vi 2) (by unfold rfwCheckM; (try rw [h4]); (try rw [h8]); (try rw [hL1_]); first | done | kernel_rfl)
      ·
       have hg11' := of_decide_eq_false hg11
       refine AOps.he [.run 3, .idx intC f.sums 1 k1_ e1_ he1_, .run 3] 53 [(1, .ptr 0 0), (3, vi ((k1_ : Nat) : Int)), (52, vb (decide (e1_ > 4294967295)))] [(0, .box 28 (avs (Firmware.cells f)))] 1 ?_
       refine AWp.cnd (decide (e1_ > 4294967295)) (fun h12 => ?_) (fun h12 => ?_)
       ·
        have h12' := of_decide_eq_true h12
        refine AWp.hz [.run 1] 53 [(2, vi 2)] [] 1 ?_
        refine AWp.ret ?_
        have hL1_ : rfwCheckM_L1 f = some 2 := scanN_some hs1_ (by omega) (by unfold rfwCheckM_B1; (try simp only [he1_]); (try rw [h10]); (try rw [hg11]); (try rw [h12]); first | done | kernel_rfl)
        exact leafR (r := vi 2) (by unfold rfwCheckM; (try rw [h4]); (try rw [h8]); (try rw [hL1_]); first | done | kernel_rfl)
       ·
        have h12' := of_decide_eq_false h12
        refine AWp.skip ?_
        refine AWp.he [.run 1, .cast (vi (IntKind.i64.wrap (((k1_ : Nat) : Int) + 1))) (vi ((k1_ + 1 : Nat) : Int)) (congrArg vi (wrap_nat (by omega))), .run 1] 53 [(1, .ptr 0 0), (3, vi ((k1_ + 1 : Nat) : Int))] [(0, .box 28 (avs (Firmware.cells f)))] 1 ?_
        exact ⟨k1_ + 1, ⟨by omega, scanN_none hs1_ (by omega) (by unfold rfwCheckM_B1; (try simp only [he1_]); (try rw [h10]); (try rw [hg11]); (try rw [h12]); first | done | kernel_rfl)⟩, by omega, leG⟩
     ·
      have h10' := of_decide_eq_false h10
      refine AWp.exit ?_
      have hL1_ : rfwCheckM_L1 f = none := scanN_end hs1_ (by omega)
      refine AWp.hz [.run 1] 53 [(2, vi 0)] [] 1 ?_
      refine AWp.ret ?_
      exact leafR (r := vi 0) (by unfold rfwCheckM; (try rw [h4]); (try rw [h8]); (try rw [hL1_]); first | done | kernel_rfl)
def completeM (u : Update) (f : Firmware) : Bool :=
  ((u.status == 4) || ((u.status == 0) && (u.version == f.version)))
theorem completeM_ok (u : Update) (f : Firmware) :
 ACalls Try.prog G_ 37 [.agg (avs (Update.cells u)), .agg (avs (Firmware.cells f))] [] 0 (fun r τ => r = vb (completeM u f) ∧ τ = []) := by
 refine ACalls.body Try.func37 rfl 20 [(0, .agg (avs (Update.cells u))), (1, .agg (avs (Firmware.cells f)))] ?_
 refine AWp.hz [.run 3] 20 [(2, .ptr 0 0), (3, .ptr 1 0)] [(1, .box 28 (avs (Firmware.cells f))), (0, .box 54 (avs (Update.cells u)))] 2 ?_
 refine AWp.join (Z 20 [(4, vb ((u.status == 4) || ((u.status == 0) && (u.version == f.version))))] [] 2) ?_ ?_
 ·
  refine AWp.region ?_
  refine AOps.hg [.run 4] ((u.status == 4)) 20 (fun b_ => [(2, .ptr 0 0), (3, .ptr 1 0), (8, vb b_)]) [(1, .box 28 (avs (Firmware.cells f))), (0, .box 54 (avs (Update.cells u)))] 2 (fun hg1 => ?_) (fun hg1 => ?_)
  ·
   refine AOps.he [.run 12] 20 [(4, vb true)] [] 2 ?_
   exact leZ (by rw [hg1]; first | done | kernel_rfl)
  ·
   refine AOps.hg [.run 4] ((u.status == 0)) 20 (fun b_ => [(2, .ptr 0 0), (3, .ptr 1 0), (8, vb false), (12, vb b_)]) [(1, .box 28 (avs (Firmware.cells f))), (0, .box 54 (avs (Update.cells u)))] 2 (fun hg2 => ?_) (fun hg2 => ?_)
   ·
    refine AOps.he [.run 8] 20 [(4, vb (u.version == f.version))] [] 2 ?_
    exact leZ (by rw [hg1, hg2]; first | done | kernel_rfl)
   ·
    refine AOps.he [.run 8] 20 [(4, vb false)] [] 2 ?_
    exact leZ (by rw [hg1, hg2]; first | done | kernel_rfl)
 ·
  refine AWp.ret ?_
  exact leafR (r := vb ((u.status == 4) || ((u.status == 0) && (u.version == f.version)))) (by unfold completeM; first | done | kernel_rfl)
def rcompleteM (u : Update) (f : Firmware) : Bool :=
  ((u.status == 4) || ((u.status == 0) && (u.version == f.version)))
theorem rcompleteM_ok (u : Update) (f : Firmware) :
 ACalls Try.prog G_ 28 [.agg (avs (Update.cells u)), .agg (avs (Firmware.cells f))] [] 0 (fun r τ => r = vb (rcompleteM u f) ∧ τ = []) := by
 refine ACalls.body Try.func28 rfl 20 [(0, .agg (avs (Update.cells u))), (1, .agg (avs (Firmware.cells f)))] ?_
 refine AWp.hz [.run 3] 20 [(2, .ptr 0 0), (3, .ptr 1 0)] [(1, .box 28 (avs (Firmware.cells f))), (0, .box 54 (avs (Update.cells u)))] 2 ?_
 refine AWp.join (Z 20 [(4, vb ((u.status == 4) || ((u.status == 0) && (u.version == f.version))))] [] 2) ?_ ?_
 ·
  refine AWp.region ?_
  refine AOps.hg [.run 4] ((u.status == 4)) 20 (fun b_ => [(2, .ptr 0 0), (3, .ptr 1 0), (8, vb b_)]) [(1, .box 28 (avs (Firmware.cells f))), (0, .box 54 (avs (Update.cells u)))] 2 (fun hg1 => ?_) (fun hg1 => ?_)
  ·
   refine AOps.he [.run 12] 20 [(4, vb true)] [] 2 ?_
   exact leZ (by rw [hg1]; first | done | kernel_rfl)
  ·
   refine AOps.hg [.run 4] ((u.status == 0)) 20 (fun b_ => [(2, .ptr 0 0), (3, .ptr 1 0), (8, vb false), (12, vb b_)]) [(1, .box 28 (avs (Firmware.cells f))), (0, .box 54 (avs (Update.cells u)))] 2 (fun hg2 => ?_) (fun hg2 => ?_)
   ·
    refine AOps.he [.run 8] 20 [(4, vb (u.version == f.version))] [] 2 ?_
    exact leZ (by rw [hg1, hg2]; first | done | kernel_rfl)
   ·
    refine AOps.he [.run 8] 20 [(4, vb false)] [] 2 ?_
    exact leZ (by rw [hg1, hg2]; first | done | kernel_rfl)
 ·
  refine AWp.ret ?_
  exact leafR (r := vb ((u.status == 4) || ((u.status == 0) && (u.version == f.version)))) (by unfold rcompleteM; first | done | kernel_rfl)
def versionM_B1 (l : List Pair) (n : Int) (k1_ : Nat) : Option Int :=
  (match (l)[k1_]? with | some e1_ => (bif (e1_.a0 == n) then some (if 65535 < (if 0 > e1_.a1 then 0 else e1_.a1) then 65535 else (if 0 > e1_.a1 then 0 else e1_.a1)) else none) | none => none)
def versionM_L1 (l : List Pair) (n : Int) : Option Int := scanN (versionM_B1 l n) 0 l.length
def versionM (l : List Pair) (n : Int) : Int :=
  (versionM_L1 l n).getD 0
theorem versionM_ok (l : List Pair) (n : Int) :
 ACalls Try.prog G_ 32 [.rv (.sl 2 (l.map Pair.cells)), vi n] [] 0 (fun r τ => r = vi (versionM l n) ∧ τ = []) := by
 refine ACalls.body Try.func32 rfl 22 [(0, .rv (.sl 2 (l.map Pair.cells))), (1, vi n)] ?_
 refine AWp.hz [.run 1] 22 [(0, .rv (.sl 2 (l.map Pair.cells))), (1, vi n)] [] 0 ?_
 refine AWp.seq ?_
 refine AWp.hzl [.run 1, .len Pair.cells l 2, .run 1] 22 [(1, vi n), (7, .rv (.sl 2 (l.map Pair.cells))), (8, vi ((l.length : Nat) : Int)), (9, vi 0)] [] 0 (fun hl => ?_)
 obtain ⟨hn1, -⟩ := hl
 refine AWp.block ?_
 refine AWp.loop (ι := Nat) (fun k1_ => Z 22 [(1, vi n), (7, .rv (.sl 2 (l.map Pair.cells))), (8, vi ((l.length : Nat) : Int)), (9, vi ((k1_ : Nat) : Int))] [] 0) (fun k1_ => k1_ ≤ l.length ∧ versionM_L1 l n = scanN (versionM_B1 l n) k1_ (l.length - k1_)) (fun k1_ => l.length - k1_) 0 leZ ⟨Nat.zero_le _, rfl⟩ ?_
 intro k1_ ⟨hk1_, hs1_⟩
 refine AWp.hz [.run 1] 22 [(1, vi n), (7, .rv (.sl 2 (l.map Pair.cells))), (8, vi ((l.length : Nat) : Int)), (9, vi ((k1_ : Nat) : Int)), (10, vb (decide (((k1_ : Nat) : Int) < ((l.length : Nat) : Int))))] [] 0 ?_
 refine AWp.seq ?_
 refine AWp.cnd (decide (((k1_ : Nat) : Int) < ((l.length : Nat) : Int))) (fun h2 => ?_) (fun h2 => ?_)
 ·
  have h2' := of_decide_eq_true h2
  refine AWp.skip ?_
  refine AWp.seq ?_
  refine AWp.block ?_
  obtain ⟨e1_, he1_⟩ := getEx (l := l) (j := k1_) (by omega)
  refine AWp.hz [.idx Pair.cells l 2 k1_ e1_ he1_, .run 3] 22 [(1, vi n), (6, .ptr 0 0), (7, .rv (.sl 2 (l.map Pair.cells))), (8, vi ((l.length : Nat) : Int)), (9, vi ((k1_ : Nat) : Int))] [(0, .box 68 (avs (Pair.cells e1_)))] 1 ?_
  refine AWp.hz [.run 4] 22 [(1, vi n), (6, .ptr 0 0), (7, .rv (.sl 2 (l.map Pair.cells))), (8, vi ((l.length : Nat) : Int)), (9, vi ((k1_ : Nat) : Int)), (16, vb (e1_.a0 == n))] [(0, .box 68 (avs (Pair.cells e1_)))] 1 ?_
  refine AWp.cnd ((e1_.a0 == n)) (fun h3 => ?_) (fun h3 => ?_)
  ·
   refine AWp.hz [.run 2, .mnx true e1_.a1 0, .mnx false (if 0 > e1_.a1 then 0 else e1_.a1) 65535, .run 1] 22 [(4, vi (if 65535 < (if 0 > e1_.a1 then 0 else e1_.a1) then 65535 else (if 0 > e1_.a1 then 0 else e1_.a1)))] [] 1 ?_
   refine AWp.ret ?_
   have hL1_ : versionM_L1 l n = some (if 65535 < (if 0 > e1_.a1 then 0 else e1_.a1) then 65535 else (if 0 > e1_.a1 then 0 else e1_.a1)) := scanN_some hs1_ (by omega) (by unfold versionM_B1; (try simp only [he1_]); (try rw [h2]); (try rw [h3]); first | done | kernel_rfl)
   exact leafR (r := vi (if 65535 < (if 0 > e1_.a1 then 0 else e1_.a1) then 65535 else (if 0 > e1_.a1 then 0 else e1_.a1))) (by unfold versionM; (try rw [hL1_]); first | done | kernel_rfl)
  ·
   refine AWp.skip ?_
   refine AWp.he [.cast (vi (IntKind.i64.wrap (((k1_ : Nat) : Int) + 1))) (vi ((k1_ + 1 : Nat) : Int)) (congrArg vi (wrap_nat (by omega))), .run 1] 22 [(1, vi n), (7, .rv (.sl 2 (l.map Pair.cells))), (8, vi ((l.length : Nat) : Int)), (9, vi ((k1_ + 1 : Nat) : Int))] [] 1 ?_
   exact ⟨k1_ + 1, ⟨by omega, scanN_none hs1_ (by omega) (by unfold versionM_B1; (try simp only [he1_]); (try rw [h2]); (try rw [h3]); first | done | kernel_rfl)⟩, by omega, leG⟩
 ·
  have h2' := of_decide_eq_false h2
  refine AWp.exit ?_
  have hL1_ : versionM_L1 l n = none := scanN_end hs1_ (by omega)
  refine AWp.hz [.run 1] 22 [(4, vi 0)] [] 0 ?_
  refine AWp.ret ?_
  exact leafR (r := vi 0) (by unfold versionM; (try rw [hL1_]); first | done | kernel_rfl)
def rversionM_B1 (l : List Pair) (n : Int) (k1_ : Nat) : Option Int :=
  (match (l)[k1_]? with | some e1_ => (bif (e1_.a0 != n) then none else (bif decide (e1_.a1 < 0) then some 0 else (bif decide (e1_.a1 > 65535) then some 65535 else some e1_.a1))) | none => none)
def rversionM_L1 (l : List Pair) (n : Int) : Option Int := scanN (rversionM_B1 l n) 0 l.length
def rversionM (l : List Pair) (n : Int) : Int :=
  (rversionM_L1 l n).getD 0
theorem rversionM_ok (l : List Pair) (n : Int) :
 ACalls Try.prog G_ 35 [.rv (.sl 2 (l.map Pair.cells)), vi n] [] 0 (fun r τ => r = vi (rversionM l n) ∧ τ = []) := by
 refine ACalls.body Try.func35 rfl 36 [(0, .rv (.sl 2 (l.map Pair.cells))), (1, vi n)] ?_
 refine AWp.hz [.run 1] 36 [(0, .rv (.sl 2 (l.map Pair.cells))), (1, vi n)] [] 0 ?_
 refine AWp.seq ?_
 refine AWp.hzl [.run 1, .len Pair.cells l 2, .run 1] 36 [(0, .rv (.sl 2 (l.map Pair.cells))), (1, vi n), (7, vi ((l.length : Nat) : Int)), (8, vi 0)] [] 0 (fun hl => ?_)
 obtain ⟨hn1, -⟩ := hl
 refine AWp.block ?_
 refine AWp.loop (ι := Nat) (fun k1_ => Z 36 [(0, .rv (.sl 2 (l.map Pair.cells))), (1, vi n), (7, vi ((l.length : Nat) : Int)), (8, vi ((k1_ : Nat) : Int))] [] 0) (fun k1_ => k1_ ≤ l.length ∧ rversionM_L1 l n = scanN (rversionM_B1 l n) k1_ (l.length - k1_)) (fun k1_ => l.length - k1_) 0 leZ ⟨Nat.zero_le _, rfl⟩ ?_
 intro k1_ ⟨hk1_, hs1_⟩
 refine AWp.hz [.run 1] 36 [(0, .rv (.sl 2 (l.map Pair.cells))), (1, vi n), (7, vi ((l.length : Nat) : Int)), (8, vi ((k1_ : Nat) : Int)), (9, vb (decide (((k1_ : Nat) : Int) < ((l.length : Nat) : Int))))] [] 0 ?_
 refine AWp.seq ?_
 refine AWp.cnd (decide (((k1_ : Nat) : Int) < ((l.length : Nat) : Int))) (fun h2 => ?_) (fun h2 => ?_)
 ·
  have h2' := of_decide_eq_true h2
  refine AWp.skip ?_
  refine AWp.seq ?_
  refine AWp.block ?_
  refine AWp.hz [.run 2] 36 [(0, .rv (.sl 2 (l.map Pair.cells))), (1, vi n), (5, vi ((k1_ : Nat) : Int)), (7, vi ((l.length : Nat) : Int)), (8, vi ((k1_ : Nat) : Int))] [] 0 ?_
  refine AWp.seq ?_
  obtain ⟨e1_, he1_⟩ := getEx (l := l) (j := k1_) (by omega)
  refine AWp.hz [.run 2, .idx Pair.cells l 2 k1_ e1_ he1_, .run 4] 36 [(0, .rv (.sl 2 (l.map Pair.cells))), (1, vi n), (5, vi ((k1_ : Nat) : Int)), (7, vi ((l.length : Nat) : Int)), (8, vi ((k1_ : Nat) : Int)), (17, vb (e1_.a0 != n))] [] 0 ?_
  refine AWp.cnd ((e1_.a0 != n)) (fun h3 => ?_) (fun h3 => ?_)
  ·
   refine AWp.exit ?_
   refine AWp.he [.cast (vi (IntKind.i64.wrap (((k1_ : Nat) : Int) + 1))) (vi ((k1_ + 1 : Nat) : Int)) (congrArg vi (wrap_nat (by omega))), .run 1] 36 [(0, .rv (.sl 2 (l.map Pair.cells))), (1, vi n), (7, vi ((l.length : Nat) : Int)), (8, vi ((k1_ + 1 : Nat) : Int))] [] 0 ?_
   exact ⟨k1_ + 1, ⟨by omega, scanN_none hs1_ (by omega) (by unfold rversionM_B1; (try simp only [he1_]); (try rw [h2]); (try rw [h3]); first | done | kernel_rfl)⟩, by omega, leG⟩
  ·
   refine AWp.skip ?_
   refine AWp.seq ?_
   refine AWp.hz [.run 2, .idx Pair.cells l 2 k1_ e1_ he1_, .run 3] 36 [(0, .rv (.sl 2 (l.map Pair.cells))), (5, vi ((k1_ : Nat) : Int)), (23, vb (decide (e1_.a1 < 0)))] [] 0 ?_
   refine AWp.cnd (decide (e1_.a1 < 0)) (fun h4 => ?_) (fun h4 => ?_)
   ·
    have h4' := of_decide_eq_true h4
    refine AWp.hz [.run 1] 36 [(4, vi 0)] [] 0 ?_
    refine AWp.ret ?_
    have hL1_ : rversionM_L1 l n = some 0 := scanN_some hs1_ (by omega) (by unfold rversionM_B1; (try simp only [he1_]); (try rw [h2]); (try rw [h3]); (try rw [h4]); first | done | kernel_rfl)
    exact leafR (r := vi 0) (by unfold rversionM; (try rw [hL1_]); first | done | kernel_rfl)
   ·
    have h4' := of_decide_eq_false h4
    refine AWp.skip ?_
    refine AWp.seq ?_
    refine AWp.hz [.run 2, .idx Pair.cells l 2 k1_ e1_ he1_, .run 3] 36 [(0, .rv (.sl 2 (l.map Pair.cells))), (5, vi ((k1_ : Nat) : Int)), (29, vb (decide (e1_.a1 > 65535)))] [] 0 ?_
    refine AWp.cnd (decide (e1_.a1 > 65535)) (fun h5 => ?_) (fun h5 => ?_)
    ·
     have h5' := of_decide_eq_true h5
     refine AWp.hz [.run 1] 36 [(4, vi 65535)] [] 0 ?_
     refine AWp.ret ?_
     have hL1_ : rversionM_L1 l n = some 65535 := scanN_some hs1_ (by omega) (by unfold rversionM_B1; (try simp only [he1_]); (try rw [h2]); (try rw [h3]); (try rw [h4]); (try rw [h5]); first | done | kernel_rfl)
     exact leafR (r := vi 65535) (by unfold rversionM; (try rw [hL1_]); first | done | kernel_rfl)
    ·
     have h5' := of_decide_eq_false h5
     refine AWp.skip ?_
     refine AWp.hz [.run 2, .idx Pair.cells l 2 k1_ e1_ he1_, .run 3] 36 [(4, vi e1_.a1)] [] 0 ?_
     refine AWp.ret ?_
     have hL1_ : rversionM_L1 l n = some e1_.a1 := scanN_some hs1_ (by omega) (by unfold rversionM_B1; (try simp only [he1_]); (try rw [h2]); (try rw [h3]); (try rw [h4]); (try rw [h5]); first | done | kernel_rfl)
     exact leafR (r := vi e1_.a1) (by unfold rversionM; (try rw [hL1_]); first | done | kernel_rfl)
 ·
  have h2' := of_decide_eq_false h2
  refine AWp.exit ?_
  have hL1_ : rversionM_L1 l n = none := scanN_end hs1_ (by omega)
  refine AWp.hz [.run 1] 36 [(4, vi 0)] [] 0 ?_
  refine AWp.ret ?_
  exact leafR (r := vi 0) (by unfold rversionM; (try rw [hL1_]); first | done | kernel_rfl)
def waveM_B1 (n : Int) (x_ : Int × Int) : Step Unit (Int × Int) :=
  match x_ with
  | (a1_0, a1_1) => (bif decide (n ≥ IntKind.i64.wrap (IntKind.i64.wrap (2 * a1_1) + 1)) then .nxt (IntKind.i64.wrap (a1_0 + 1), IntKind.i64.wrap (IntKind.i64.wrap (2 * a1_1) + 1)) else .brk (a1_0, a1_1))
def waveM_L1 (n : Int) (x_ : Int × Int) : Int × Int := loopV (waveM_B1 n) 63 x_
def waveM (n : Int) : Int :=
  (waveM_L1 n (0, 0)).1
theorem waveM_aux (n : Int) (hn : n < 4611686018427387904) : ∀ (j : Nat) (w f : Int), (f + 1) * 2 ^ j = 4611686018427387904 → 0 ≤ f → endsW (waveM_B1 n) (j + 1) (w, f)
  | 0, w, f, h, h0 => by
    have hf : f + 1 = 4611686018427387904 := by simpa using h
    have e1 : IntKind.i64.wrap (2 * f) = 2 * f := wrap64_of _ (by omega) (by omega)
    have e2 : IntKind.i64.wrap (2 * f + 1) = 2 * f + 1 := wrap64_of _ (by omega) (by omega)
    have e3 : decide (n ≥ 2 * f + 1) = false := decide_eq_false (by omega)
    simp only [endsW, waveM_B1, e1, e2, e3, cond_false]
  | j + 1, w, f, h, h0 => by
    have h2 : (2 * f + 1 + 1) * 2 ^ j = 4611686018427387904 := by rw [← h, Int.pow_succ]; rw [show 2 * f + 1 + 1 = (f + 1) * 2 by omega, Int.mul_assoc, Int.mul_comm 2 (2 ^ j)]
    have hp : (0 : Int) < 2 ^ j := Int.pow_pos (by omega)
    have hb : (2 * f + 1 + 1) * 1 ≤ (2 * f + 1 + 1) * 2 ^ j := Int.mul_le_mul_of_nonneg_left (by omega) (by omega)
    have e1 : IntKind.i64.wrap (2 * f) = 2 * f := wrap64_of _ (by omega) (by omega)
    have e2 : IntKind.i64.wrap (2 * f + 1) = 2 * f + 1 := wrap64_of _ (by omega) (by omega)
    unfold endsW waveM_B1
    simp only [e1, e2]
    cases decide (n ≥ 2 * f + 1) with
    | true => exact waveM_aux n hn j _ _ h2 (by omega)
    | false => simp only [cond_false]
theorem waveM_ends (n : Int) (hn : n < 4611686018427387904) : endsW (waveM_B1 n) 63 (0, 0) := waveM_aux n hn 62 0 0 (by decide) (by omega)
theorem waveM_ok (n : Int) (hn : n < 4611686018427387904) :
 ACalls Try.prog G_ 38 [vi n] [] 0 (fun r τ => r = vi (waveM n) ∧ τ = []) := by
 refine ACalls.body Try.func38 rfl 16 [(0, vi n)] ?_
 refine AWp.hz [.run 1] 16 [(0, vi n)] [] 0 ?_
 refine AWp.hz [.run 1] 16 [(0, vi n), (3, vi 0)] [] 0 ?_
 refine AWp.seq ?_
 refine AWp.hz [.run 1] 16 [(0, vi n), (3, vi 0), (4, vi 0)] [] 0 ?_
 refine AWp.joinE1 (A := Int × Int) (fun x_ => Z 16 [(3, vi x_.1)] [] 0) (fun x_ => x_ = (waveM_L1 n (0, 0))) ?_ ?_
 ·
  refine AWp.block ?_
  refine AWp.loop (ι := Nat × (Int × Int)) (fun x_ => Z 16 [(0, vi n), (3, vi x_.2.1), (4, vi x_.2.2)] [] 0) (fun x_ => (loopW (waveM_B1 n) 63 (0, 0) = loopW (waveM_B1 n) x_.1 x_.2 ∧ endsW (waveM_B1 n) x_.1 x_.2)) (fun x_ => x_.1) (63, (0, 0)) leZ ⟨rfl, waveM_ends n hn⟩ ?_
  rintro ⟨n1_, ⟨a1_0, a1_1⟩⟩ hs1_
  try dsimp only at hs1_
  refine AWp.cv 16 [(0, vi n), (3, vi a1_0), (4, vi a1_1)] [] 0 ?_
  refine AWp.seq ?_
  refine AWp.hz [.run 5] 16 [(0, vi n), (3, vi a1_0), (4, vi a1_1), (9, vb (decide (n ≥ IntKind.i64.wrap (IntKind.i64.wrap (2 * a1_1) + 1))))] [] 0 ?_
  refine AWp.cnd (decide (n ≥ IntKind.i64.wrap (IntKind.i64.wrap (2 * a1_1) + 1))) (fun h1 => ?_) (fun h1 => ?_)
  ·
   have h1' := of_decide_eq_true h1
   refine AWp.skip ?_
   refine AWp.seq ?_
   refine AWp.block ?_
   refine AWp.he [.run 3] 16 [(0, vi n), (3, vi (IntKind.i64.wrap (a1_0 + 1))), (4, vi a1_1)] [] 0 ?_
   refine AWp.he [.run 4] 16 [(0, vi n), (3, vi (IntKind.i64.wrap (a1_0 + 1))), (4, vi (IntKind.i64.wrap (IntKind.i64.wrap (2 * a1_1) + 1)))] [] 0 ?_
   obtain ⟨m1_, rfl, hm1_⟩ := loopW_next (a' := (IntKind.i64.wrap (a1_0 + 1), IntKind.i64.wrap (IntKind.i64.wrap (2 * a1_1) + 1))) hs1_ (by unfold waveM_B1; (try dsimp only); (try rw [h1]); first | done | kernel_rfl)
   exact ⟨(m1_, (IntKind.i64.wrap (a1_0 + 1), IntKind.i64.wrap (IntKind.i64.wrap (2 * a1_1) + 1))), hm1_, Nat.lt_succ_self _, leG⟩
  ·
   have h1' := of_decide_eq_false h1
   refine AWp.exit ?_
   have hq1_ := loopW_brk (a' := (a1_0, a1_1)) hs1_ (by unfold waveM_B1; (try dsimp only); (try rw [h1]); first | done | kernel_rfl)
   exact ⟨(a1_0, a1_1), loopV_of hq1_, leG⟩
 ·
  rintro _ rfl
  refine AWp.hz [.run 2] 16 [(2, vi ((waveM_L1 n (0, 0)).1))] [] 0 ?_
  refine AWp.ret ?_
  exact leafR (r := vi ((waveM_L1 n (0, 0)).1)) (by unfold waveM; first | done | kernel_rfl)
def ofM_B1 (n : Int) (x_ : Int × Int × Int) : Step Unit (Int × Int × Int) :=
  match x_ with
  | (a1_0, a1_1, a1_2) => (bif decide (n ≥ a1_2) then .nxt (IntKind.i64.wrap (a1_0 + 1), IntKind.i64.wrap (a1_1 * 2), IntKind.i64.wrap (a1_2 + IntKind.i64.wrap (a1_1 * 2))) else .brk (a1_0, a1_1, a1_2))
def ofM_L1 (n : Int) (x_ : Int × Int × Int) : Int × Int × Int := loopV (ofM_B1 n) 63 x_
def ofM (n : Int) : Int :=
  (ofM_L1 n (0, 1, 1)).1
theorem ofM_aux (n : Int) (hn : n < 4611686018427387904) : ∀ (j : Nat) (w z e : Int), z * 2 ^ j = 4611686018427387904 → 1 ≤ z → e = 2 * z - 1 → endsW (ofM_B1 n) (j + 1) (w, z, e)
  | 0, w, z, e, h, h0, he => by
    have hf : z = 4611686018427387904 := by simpa using h
    have e3 : decide (n ≥ e) = false := decide_eq_false (by omega)
    simp only [endsW, ofM_B1, e3, cond_false]
  | j + 1, w, z, e, h, h0, he => by
    have h2 : (z * 2) * 2 ^ j = 4611686018427387904 := by rw [← h, Int.pow_succ, Int.mul_assoc, Int.mul_comm 2 (2 ^ j)]
    have hp : (0 : Int) < 2 ^ j := Int.pow_pos (by omega)
    have hb : (z * 2) * 1 ≤ (z * 2) * 2 ^ j := Int.mul_le_mul_of_nonneg_left (by omega) (by omega)
    have e1 : IntKind.i64.wrap (z * 2) = z * 2 := wrap64_of _ (by omega) (by omega)
    have e2 : IntKind.i64.wrap (e + z * 2) = e + z * 2 := wrap64_of _ (by omega) (by omega)
    unfold endsW ofM_B1
    simp only [e1, e2]
    cases decide (n ≥ e) with
    | true => exact ofM_aux n hn j _ _ _ h2 (by omega) (by omega)
    | false => simp only [cond_false]
theorem ofM_ends (n : Int) (hn : n < 4611686018427387904) : endsW (ofM_B1 n) 63 (0, 1, 1) := ofM_aux n hn 62 0 1 1 (by decide) (by omega) (by omega)
theorem ofM_ok (n : Int) (hn : n < 4611686018427387904) :
 ACalls Try.prog G_ 21 [vi n] [] 0 (fun r τ => r = vi (ofM n) ∧ τ = []) := by
 refine ACalls.body Try.func21 rfl 17 [(0, vi n)] ?_
 refine AWp.hz [.run 1] 17 [(0, vi n)] [] 0 ?_
 refine AWp.hz [.run 3] 17 [(0, vi n), (3, vi 0), (4, vi 1), (5, vi 1)] [] 0 ?_
 refine AWp.joinE (A := Int × Int × Int) (fun x_ => Z 17 [(3, vi x_.1)] [] 0) (fun x_ => x_ = (ofM_L1 n (0, 1, 1))) ?_ ?_
 ·
  refine AWp.block ?_
  refine AWp.loop (ι := Nat × (Int × Int × Int)) (fun x_ => Z 17 [(0, vi n), (3, vi x_.2.1), (4, vi x_.2.2.1), (5, vi x_.2.2.2)] [] 0) (fun x_ => (loopW (ofM_B1 n) 63 (0, 1, 1) = loopW (ofM_B1 n) x_.1 x_.2 ∧ endsW (ofM_B1 n) x_.1 x_.2)) (fun x_ => x_.1) (63, (0, 1, 1)) leZ ⟨rfl, ofM_ends n hn⟩ ?_
  rintro ⟨n1_, ⟨a1_0, a1_1, a1_2⟩⟩ hs1_
  try dsimp only at hs1_
  refine AWp.cv 17 [(0, vi n), (3, vi a1_0), (4, vi a1_1), (5, vi a1_2)] [] 0 ?_
  refine AWp.seq ?_
  refine AWp.hz [.run 3] 17 [(0, vi n), (3, vi a1_0), (4, vi a1_1), (5, vi a1_2), (8, vb (decide (n ≥ a1_2)))] [] 0 ?_
  refine AWp.cnd (decide (n ≥ a1_2)) (fun h1 => ?_) (fun h1 => ?_)
  ·
   have h1' := of_decide_eq_true h1
   refine AWp.skip ?_
   refine AWp.block ?_
   refine AWp.hz [.run 3] 17 [(0, vi n), (3, vi (IntKind.i64.wrap (a1_0 + 1))), (4, vi a1_1), (5, vi a1_2)] [] 0 ?_
   refine AWp.hz [.run 3] 17 [(0, vi n), (3, vi (IntKind.i64.wrap (a1_0 + 1))), (4, vi (IntKind.i64.wrap (a1_1 * 2))), (5, vi a1_2)] [] 0 ?_
   refine AWp.he [.run 4] 17 [(0, vi n), (3, vi (IntKind.i64.wrap (a1_0 + 1))), (4, vi (IntKind.i64.wrap (a1_1 * 2))), (5, vi (IntKind.i64.wrap (a1_2 + IntKind.i64.wrap (a1_1 * 2))))] [] 0 ?_
   obtain ⟨m1_, rfl, hm1_⟩ := loopW_next (a' := (IntKind.i64.wrap (a1_0 + 1), IntKind.i64.wrap (a1_1 * 2), IntKind.i64.wrap (a1_2 + IntKind.i64.wrap (a1_1 * 2)))) hs1_ (by unfold ofM_B1; (try dsimp only); (try rw [h1]); first | done | kernel_rfl)
   exact ⟨(m1_, (IntKind.i64.wrap (a1_0 + 1), IntKind.i64.wrap (a1_1 * 2), IntKind.i64.wrap (a1_2 + IntKind.i64.wrap (a1_1 * 2)))), hm1_, Nat.lt_succ_self _, leG⟩
  ·
   have h1' := of_decide_eq_false h1
   refine AWp.exit ?_
   have hq1_ := loopW_brk (a' := (a1_0, a1_1, a1_2)) hs1_ (by unfold ofM_B1; (try dsimp only); (try rw [h1]); first | done | kernel_rfl)
   exact ⟨(a1_0, a1_1, a1_2), loopV_of hq1_, leG⟩
 ·
  rintro _ rfl
  refine AWp.hz [.run 2] 17 [(2, vi ((ofM_L1 n (0, 1, 1)).1))] [] 0 ?_
  refine AWp.ret ?_
  exact leafR (r := vi ((ofM_L1 n (0, 1, 1)).1)) (by unfold ofM; first | done | kernel_rfl)
def sameFlagsM_B1 (a b : List Bool) (k1_ : Nat) : Option Bool :=
  (match (a)[k1_]? with | some e1_ => (match (b)[k1_]? with | some e2_ => (bif !(e1_ == e2_) then some false else none) | none => none) | none => none)
def sameFlagsM_L1 (a b : List Bool) : Option Bool := scanN (sameFlagsM_B1 a b) 0 a.length
def sameFlagsM (a b : List Bool) : Bool :=
  (bif (((a.length : Nat) : Int) != ((b.length : Nat) : Int)) then false else (sameFlagsM_L1 a b).getD true)
theorem sameFlagsM_ok (a b : List Bool) :
 ACalls Try.prog G_ 36 [.rv (.sl 1 (a.map boolC)), .rv (.sl 1 (b.map boolC))] [] 0 (fun r τ => r = vb (sameFlagsM a b) ∧ τ = []) := by
 refine ACalls.body Try.func36 rfl 26 [(0, .rv (.sl 1 (a.map boolC))), (1, .rv (.sl 1 (b.map boolC)))] ?_
 refine AWp.hz [.run 1] 26 [(0, .rv (.sl 1 (a.map boolC))), (1, .rv (.sl 1 (b.map boolC)))] [] 0 ?_
 refine AWp.seq ?_
 refine AWp.hzl [.run 1, .len boolC a 1, .run 1, .len boolC b 1, .run 1] 26 [(0, .rv (.sl 1 (a.map boolC))), (1, .rv (.sl 1 (b.map boolC))), (10, vb (((a.length : Nat) : Int) != ((b.length : Nat) : Int)))] [] 0 (fun hl => ?_)
 obtain ⟨hn1, hn2, -⟩ := hl
 refine AWp.cnd ((((a.length : Nat) : Int) != ((b.length : Nat) : Int))) (fun h3 => ?_) (fun h3 => ?_)
 ·
  have h3' := bne_t h3
  refine AWp.hz [.run 1] 26 [(4, vb false)] [] 0 ?_
  refine AWp.ret ?_
  exact leafR (r := vb false) (by unfold sameFlagsM; (try rw [h3]); first | done | kernel_rfl)
 ·
  have h3' := bne_f h3
  refine AWp.skip ?_
  refine AWp.seq ?_
  refine AWp.hzl [.run 1, .len boolC a 1, .run 1] 26 [(0, .rv (.sl 1 (a.map boolC))), (1, .rv (.sl 1 (b.map boolC))), (12, vi ((a.length : Nat) : Int)), (13, vi 0)] [] 0 (fun hl => ?_)
  obtain ⟨hn4, -⟩ := hl
  refine AWp.block ?_
  refine AWp.loop (ι := Nat) (fun k1_ => Z 26 [(0, .rv (.sl 1 (a.map boolC))), (1, .rv (.sl 1 (b.map boolC))), (12, vi ((a.length : Nat) : Int)), (13, vi ((k1_ : Nat) : Int))] [] 0) (fun k1_ => k1_ ≤ a.length ∧ sameFlagsM_L1 a b = scanN (sameFlagsM_B1 a b) k1_ (a.length - k1_)) (fun k1_ => a.length - k1_) 0 leZ ⟨Nat.zero_le _, rfl⟩ ?_
  intro k1_ ⟨hk1_, hs1_⟩
  refine AWp.hz [.run 1] 26 [(0, .rv (.sl 1 (a.map boolC))), (1, .rv (.sl 1 (b.map boolC))), (12, vi ((a.length : Nat) : Int)), (13, vi ((k1_ : Nat) : Int)), (14, vb (decide (((k1_ : Nat) : Int) < ((a.length : Nat) : Int))))] [] 0 ?_
  refine AWp.seq ?_
  refine AWp.cnd (decide (((k1_ : Nat) : Int) < ((a.length : Nat) : Int))) (fun h5 => ?_) (fun h5 => ?_)
  ·
   have h5' := of_decide_eq_true h5
   refine AWp.skip ?_
   refine AWp.seq ?_
   refine AWp.block ?_
   refine AWp.hz [.run 2] 26 [(0, .rv (.sl 1 (a.map boolC))), (1, .rv (.sl 1 (b.map boolC))), (5, vi ((k1_ : Nat) : Int)), (12, vi ((a.length : Nat) : Int)), (13, vi ((k1_ : Nat) : Int))] [] 0 ?_
   obtain ⟨e1_, he1_⟩ := getEx (l := a) (j := k1_) (by omega)
   obtain ⟨e2_, he2_⟩ := getEx (l := b) (j := k1_) (by omega)
   refine AWp.dz [.rv (.sl 1 (a.map boolC)), vi ((k1_ : Nat) : Int), .rv (.ptr (boolC e1_)), vb e1_, .rv (.sl 1 (b.map boolC)), vi ((k1_ : Nat) : Int), .rv (.ptr (boolC e2_)), vb e2_, vb (!(e1_ == e2_))] 26 [(0, .rv (.sl 1 (a.map boolC))), (1, .rv (.sl 1 (b.map boolC))), (12, vi ((a.length : Nat) : Int)), (13, vi ((k1_ : Nat) : Int)), (24, vb (!(e1_ == e2_)))] [] 0 ?_ ?_
   ·
    refine DSteps.cons (DStep.va) ?_
    refine DSteps.cons (DStep.va) ?_
    refine DSteps.cons (DStep.vs (by kernel_rfl) (R_indexAddrM boolC a 1 k1_ rfl (by kernel_rfl) (by kernel_rfl) (by kernel_rfl) he1_)) ?_
    refine DSteps.cons (DStep.va) ?_
    refine DSteps.cons (DStep.va) ?_
    refine DSteps.cons (DStep.va) ?_
    refine DSteps.cons (DStep.vs (by kernel_rfl) (R_indexAddrM boolC b 1 k1_ rfl (by kernel_rfl) (by kernel_rfl) (by kernel_rfl) he2_)) ?_
    refine DSteps.cons (DStep.va) ?_
    refine DSteps.cons (DStep.va) ?_
    exact DSteps.nl
   refine AWp.cnd (!(e1_ == e2_)) (fun h6 => ?_) (fun h6 => ?_)
   ·
    refine AWp.hz [.run 1] 26 [(4, vb false)] [] 0 ?_
    refine AWp.ret ?_
    have hL1_ : sameFlagsM_L1 a b = some false := scanN_some hs1_ (by omega) (by unfold sameFlagsM_B1; (try simp only [he1_]); (try simp only [he2_]); (try rw [h5]); (try rw [h6]); first | done | kernel_rfl)
    exact leafR (r := vb false) (by unfold sameFlagsM; (try rw [h3]); (try rw [hL1_]); first | done | kernel_rfl)
   ·
    refine AWp.skip ?_
    refine AWp.he [.cast (vi (IntKind.i64.wrap (((k1_ : Nat) : Int) + 1))) (vi ((k1_ + 1 : Nat) : Int)) (congrArg vi (wrap_nat (by omega))), .run 1] 26 [(0, .rv (.sl 1 (a.map boolC))), (1, .rv (.sl 1 (b.map boolC))), (12, vi ((a.length : Nat) : Int)), (13, vi ((k1_ + 1 : Nat) : Int))] [] 0 ?_
    exact ⟨k1_ + 1, ⟨by omega, scanN_none hs1_ (by omega) (by unfold sameFlagsM_B1; (try simp only [he1_]); (try simp only [he2_]); (try rw [h5]); (try rw [h6]); first | done | kernel_rfl)⟩, by omega, leG⟩
  ·
   have h5' := of_decide_eq_false h5
   refine AWp.exit ?_
   have hL1_ : sameFlagsM_L1 a b = none := scanN_end hs1_ (by omega)
   refine AWp.hz [.run 1] 26 [(4, vb true)] [] 0 ?_
   refine AWp.ret ?_
   exact leafR (r := vb true) (by unfold sameFlagsM; (try rw [h3]); (try rw [hL1_]); first | done | kernel_rfl)
def sameM_B1 (a b : List Update) (k1_ : Nat) : Option Bool :=
  (match (a)[k1_]? with | some e1_ => (match (b)[k1_]? with | some e2_ => (bif (((e1_.dev != e2_.dev) || ((e1_.status != e2_.status) || ((e1_.version != e2_.version) || ((e1_.previous != e2_.previous) || (e1_.since != e2_.since))))) || !(sameFlagsM e1_.have_ e2_.have_)) then some false else none) | none => none) | none => none)
def sameM_L1 (a b : List Update) : Option Bool := scanN (sameM_B1 a b) 0 a.length
def sameM (a b : List Update) : Bool :=
  (bif (((a.length : Nat) : Int) != ((b.length : Nat) : Int)) then false else (sameM_L1 a b).getD true)
theorem sameM_ok (a b : List Update) :
 ACalls Try.prog G_ 12 [.rv (.sl 6 (a.map Update.cells)), .rv (.sl 6 (b.map Update.cells))] [] 0 (fun r τ => r = vb (sameM a b) ∧ τ = []) := by
 refine ACalls.body Try.func12 rfl 68 [(0, .rv (.sl 6 (a.map Update.cells))), (1, .rv (.sl 6 (b.map Update.cells)))] ?_
 refine AWp.hz [.run 1] 68 [(0, .rv (.sl 6 (a.map Update.cells))), (1, .rv (.sl 6 (b.map Update.cells)))] [] 0 ?_
 refine AWp.seq ?_
 refine AWp.hzl [.run 1, .len Update.cells a 6, .run 1, .len Update.cells b 6, .run 1] 68 [(0, .rv (.sl 6 (a.map Update.cells))), (1, .rv (.sl 6 (b.map Update.cells))), (12, vb (((a.length : Nat) : Int) != ((b.length : Nat) : Int)))] [] 0 (fun hl => ?_)
 obtain ⟨hn1, hn2, -⟩ := hl
 refine AWp.cnd ((((a.length : Nat) : Int) != ((b.length : Nat) : Int))) (fun h3 => ?_) (fun h3 => ?_)
 ·
  have h3' := bne_t h3
  refine AWp.hz [.run 1] 68 [(4, vb false)] [] 0 ?_
  refine AWp.ret ?_
  exact leafR (r := vb false) (by unfold sameM; (try rw [h3]); first | done | kernel_rfl)
 ·
  have h3' := bne_f h3
  refine AWp.skip ?_
  refine AWp.seq ?_
  refine AWp.hzl [.run 1, .len Update.cells a 6, .run 1] 68 [(0, .rv (.sl 6 (a.map Update.cells))), (1, .rv (.sl 6 (b.map Update.cells))), (14, vi ((a.length : Nat) : Int)), (15, vi 0)] [] 0 (fun hl => ?_)
  obtain ⟨hn4, -⟩ := hl
  refine AWp.block ?_
  refine AWp.loop (ι := Nat) (fun k1_ => Z 68 [(0, .rv (.sl 6 (a.map Update.cells))), (1, .rv (.sl 6 (b.map Update.cells))), (14, vi ((a.length : Nat) : Int)), (15, vi ((k1_ : Nat) : Int))] [] 0) (fun k1_ => k1_ ≤ a.length ∧ sameM_L1 a b = scanN (sameM_B1 a b) k1_ (a.length - k1_)) (fun k1_ => a.length - k1_) 0 leZ ⟨Nat.zero_le _, rfl⟩ ?_
  intro k1_ ⟨hk1_, hs1_⟩
  refine AWp.hz [.run 1] 68 [(0, .rv (.sl 6 (a.map Update.cells))), (1, .rv (.sl 6 (b.map Update.cells))), (14, vi ((a.length : Nat) : Int)), (15, vi ((k1_ : Nat) : Int)), (16, vb (decide (((k1_ : Nat) : Int) < ((a.length : Nat) : Int))))] [] 0 ?_
  refine AWp.seq ?_
  refine AWp.cnd (decide (((k1_ : Nat) : Int) < ((a.length : Nat) : Int))) (fun h5 => ?_) (fun h5 => ?_)
  ·
   have h5' := of_decide_eq_true h5
   refine AWp.skip ?_
   refine AWp.seq ?_
   refine AWp.block ?_
   refine AWp.hz [.run 2] 68 [(0, .rv (.sl 6 (a.map Update.cells))), (1, .rv (.sl 6 (b.map Update.cells))), (5, vi ((k1_ : Nat) : Int)), (14, vi ((a.length : Nat) : Int)), (15, vi ((k1_ : Nat) : Int))] [] 0 ?_
   obtain ⟨e1_, he1_⟩ := getEx (l := a) (j := k1_) (by omega)
   obtain ⟨e2_, he2_⟩ := getEx (l := b) (j := k1_) (by omega)
   refine AWp.seq ?_
   refine AWp.cut (fuel := 0) (m := [true, true, true, true, true, true, true, true, true, true, true, true]) (s := Z 68 [(0, .rv (.sl 6 (a.map Update.cells))), (1, .rv (.sl 6 (b.map Update.cells))), (6, .ptr 0 0), (7, .ptr 1 0), (14, vi ((a.length : Nat) : Int)), (15, vi ((k1_ : Nat) : Int))] [(0, .box 54 (avs (Update.cells e1_))), (1, .box 54 (avs (Update.cells e2_)))] 2) (AD.done ?_) (fun hd6 => ?_)
   ·
    refine AWp.join (Z 68 [(0, .rv (.sl 6 (a.map Update.cells))), (1, .rv (.sl 6 (b.map Update.cells))), (14, vi ((a.length : Nat) : Int)), (15, vi ((k1_ : Nat) : Int)), (66, vb (((e1_.dev != e2_.dev) || ((e1_.status != e2_.status) || ((e1_.version != e2_.version) || ((e1_.previous != e2_.previous) || (e1_.since != e2_.since))))) || !(sameFlagsM e1_.have_ e2_.have_)))] [] 2) ?_ ?_
    ·
     refine AWp.region ?_
     refine AOps.hg [.run 6] ((e1_.dev != e2_.dev)) 68 (fun b_ => [(0, .rv (.sl 6 (a.map Update.cells))), (1, .rv (.sl 6 (b.map Update.cells))), (6, .ptr 0 0), (7, .ptr 1 0), (14, vi ((a.length : Nat) : Int)), (15, vi ((k1_ : Nat) : Int)), (31, vb b_)]) [(0, .box 54 (avs (Update.cells e1_))), (1, .box 54 (avs (Update.cells e2_)))] 2 (fun hg7 => ?_) (fun hg7 => ?_)
     ·
      refine AOps.he [.run 35] 68 [(0, .rv (.sl 6 (a.map Update.cells))), (1, .rv (.sl 6 (b.map Update.cells))), (14, vi ((a.length : Nat) : Int)), (15, vi ((k1_ : Nat) : Int)), (66, vb true)] [] 2 ?_
      exact leZ (by rw [hg7]; first | done | kernel_rfl)
     ·
      refine AOps.hg [.run 7] ((e1_.status != e2_.status)) 68 (fun b_ => [(0, .rv (.sl 6 (a.map Update.cells))), (1, .rv (.sl 6 (b.map Update.cells))), (6, .ptr 0 0), (7, .ptr 1 0), (14, vi ((a.length : Nat) : Int)), (15, vi ((k1_ : Nat) : Int)), (38, vb b_)]) [(0, .box 54 (avs (Update.cells e1_))), (1, .box 54 (avs (Update.cells e2_)))] 2 (fun hg8 => ?_) (fun hg8 => ?_)
      ·
       refine AOps.he [.run 28] 68 [(0, .rv (.sl 6 (a.map Update.cells))), (1, .rv (.sl 6 (b.map Update.cells))), (14, vi ((a.length : Nat) : Int)), (15, vi ((k1_ : Nat) : Int)), (66, vb true)] [] 2 ?_
       exact leZ (by rw [hg7, hg8]; first | done | kernel_rfl)
      ·
       refine AOps.hg [.run 7] ((e1_.version != e2_.version)) 68 (fun b_ => [(0, .rv (.sl 6 (a.map Update.cells))), (1, .rv (.sl 6 (b.map Update.cells))), (6, .ptr 0 0), (7, .ptr 1 0), (14, vi ((a.length : Nat) : Int)), (15, vi ((k1_ : Nat) : Int)), (45, vb b_)]) [(0, .box 54 (avs (Update.cells e1_))), (1, .box 54 (avs (Update.cells e2_)))] 2 (fun hg9 => ?_) (fun hg9 => ?_)
       ·
        refine AOps.he [.run 21] 68 [(0, .rv (.sl 6 (a.map Update.cells))), (1, .rv (.sl 6 (b.map Update.cells))), (14, vi ((a.length : Nat) : Int)), (15, vi ((k1_ : Nat) : Int)), (66, vb true)] [] 2 ?_
        exact leZ (by rw [hg7, hg8, hg9]; first | done | kernel_rfl)
       ·
        refine AOps.hg [.run 7] ((e1_.previous != e2_.previous)) 68 (fun b_ => [(0, .rv (.sl 6 (a.map Update.cells))), (1, .rv (.sl 6 (b.map Update.cells))), (6, .ptr 0 0), (7, .ptr 1 0), (14, vi ((a.length : Nat) : Int)), (15, vi ((k1_ : Nat) : Int)), (52, vb b_)]) [(0, .box 54 (avs (Update.cells e1_))), (1, .box 54 (avs (Update.cells e2_)))] 2 (fun hg10 => ?_) (fun hg10 => ?_)
        ·
         refine AOps.he [.run 14] 68 [(0, .rv (.sl 6 (a.map Update.cells))), (1, .rv (.sl 6 (b.map Update.cells))), (14, vi ((a.length : Nat) : Int)), (15, vi ((k1_ : Nat) : Int)), (66, vb true)] [] 2 ?_
         exact leZ (by rw [hg7, hg8, hg9, hg10]; first | done | kernel_rfl)
        ·
         refine AOps.hg [.run 7] ((e1_.since != e2_.since)) 68 (fun b_ => [(0, .rv (.sl 6 (a.map Update.cells))), (1, .rv (.sl 6 (b.map Update.cells))), (6, .ptr 0 0), (7, .ptr 1 0), (14, vi ((a.length : Nat) : Int)), (15, vi ((k1_ : Nat) : Int)), (59, vb b_)]) [(0, .box 54 (avs (Update.cells e1_))), (1, .box 54 (avs (Update.cells e2_)))] 2 (fun hg11 => ?_) (fun hg11 => ?_)
         ·
          refine AOps.he [.run 7] 68 [(0, .rv (.sl 6 (a.map Update.cells))), (1, .rv (.sl 6 (b.map Update.cells))), (14, vi ((a.length : Nat) : Int)), (15, vi ((k1_ : Nat) : Int)), (66, vb true)] [] 2 ?_
          exact leZ (by rw [hg7, hg8, hg9, hg10, hg11]; first | done | kernel_rfl)
         ·
          refine AOps.he [.run 4, .call 36 [.rv (.sl 1 (e1_.have_.map boolC)), .rv (.sl 1 (e2_.have_.map boolC))] (vb (sameFlagsM e1_.have_ e2_.have_)) [] 0 (sameFlagsM_ok e1_.have_ e2_.have_), .run 2] 68 [(0, .rv (.sl 6 (a.map Update.cells))), (1, .rv (.sl 6 (b.map Update.cells))), (14, vi ((a.length : Nat) : Int)), (15, vi ((k1_ : Nat) : Int)), (66, vb (!(sameFlagsM e1_.have_ e2_.have_)))] [] 2 ?_
          exact leZ (by rw [hg7, hg8, hg9, hg10, hg11]; first | done | kernel_rfl)
    ·
     refine AWp.cnd ((((e1_.dev != e2_.dev) || ((e1_.status != e2_.status) || ((e1_.version != e2_.version) || ((e1_.previous != e2_.previous) || (e1_.since != e2_.since))))) || !(sameFlagsM e1_.have_ e2_.have_))) (fun h12 => ?_) (fun h12 => ?_)
     ·
      refine AWp.hz [.run 1] 68 [(4, vb false)] [] 2 ?_
      refine AWp.ret ?_
      have hL1_ : sameM_L1 a b = some false := scanN_some hs1_ (by omega) (by unfold sameM_B1; (try simp only [he1_]); (try simp only [he2_]); (try rw [h5]); (try rw [h12]); first | done | kernel_rfl)
      exact leafR (r := vb false) (by unfold sameM; (try rw [h3]); (try rw [hL1_]); first | done | kernel_rfl)
     ·
      have h12l := or_fl h12
      have h12ll := or_fl h12l
      have h12lr := or_fr h12l
      have h12lrl := or_fl h12lr
      have h12lrr := or_fr h12lr
      have h12lrrl := or_fl h12lrr
      have h12lrrr := or_fr h12lrr
      have h12lrrrl := or_fl h12lrrr
      have h12lrrrr := or_fr h12lrrr
      have h12r := or_fr h12
      refine AWp.skip ?_
      refine AWp.he [.cast (vi (IntKind.i64.wrap (((k1_ : Nat) : Int) + 1))) (vi ((k1_ + 1 : Nat) : Int)) (congrArg vi (wrap_nat (by omega))), .run 1] 68 [(0, .rv (.sl 6 (a.map Update.cells))), (1, .rv (.sl 6 (b.map Update.cells))), (14, vi ((a.length : Nat) : Int)), (15, vi ((k1_ + 1 : Nat) : Int))] [] 2 ?_
      exact ⟨k1_ + 1, ⟨by omega, scanN_none hs1_ (by omega) (by unfold sameM_B1; (try simp only [he1_]); (try simp only [he2_]); (try rw [h5]); (try rw [h12]); first | done | kernel_rfl)⟩, by omega, leG⟩
   refine AWp.cut (fuel := 1) (m := [true, true, true, true, true, true, true, true, true, true, true, false]) (s := Z 68 [(0, .rv (.sl 6 (a.map Update.cells))), (1, .rv (.sl 6 (b.map Update.cells))), (6, .ptr 0 0), (7, .ptr 1 0), (14, vi ((a.length : Nat) : Int)), (15, vi ((k1_ : Nat) : Int)), (25, .agg (avs (Update.cells e2_)))] [(0, .box 54 (avs (Update.cells e1_))), (1, .box 54 [vi 0, vi 0, vi 0, vi 0, vi 0, .rv (.v (.slice none 0 0))])] 2) (AD.step 11 [] (ADs.cons _ rfl (AOps.he [.run 1] _ _ _ _ ⟨rfl, rfl⟩) hd6 (ADs.nil))) (fun hd13 => ?_)
   refine AWp.cut (fuel := 2) (m := [true, true, true, true, true, true, true, true, true, true, false, false]) (s := Z 68 [(0, .rv (.sl 6 (a.map Update.cells))), (1, .rv (.sl 6 (b.map Update.cells))), (6, .ptr 0 0), (7, .ptr 1 0), (14, vi ((a.length : Nat) : Int)), (15, vi ((k1_ : Nat) : Int)), (21, .agg (avs (Update.cells e1_))), (25, .agg (avs (Update.cells e2_)))] [(0, .box 54 [vi 0, vi 0, vi 0, vi 0, vi 0, .rv (.v (.slice none 0 0))]), (1, .box 54 [vi 0, vi 0, vi 0, vi 0, vi 0, .rv (.v (.slice none 0 0))])] 2) (AD.step 10 [] (ADs.cons _ rfl (AOps.he [.run 1] _ _ _ _ ⟨rfl, rfl⟩) hd13 (ADs.nil))) (fun hd14 => ?_)
   refine AWp.cut (fuel := 2) (m := [true, true, true, true, true, true, true, false, true, true, true, false]) (s := Z 68 [(0, .rv (.sl 6 (a.map Update.cells))), (1, .rv (.sl 6 (b.map Update.cells))), (6, .ptr 0 0), (7, .ptr 1 0), (14, vi ((a.length : Nat) : Int)), (15, vi ((k1_ : Nat) : Int)), (24, .rv (.ptr (Update.cells e2_)))] [(0, .box 54 (avs (Update.cells e1_))), (1, .box 54 [vi 0, vi 0, vi 0, vi 0, vi 0, .rv (.v (.slice none 0 0))])] 2) (AD.step 7 [] (ADs.cons _ rfl (AOps.he [.run 1] _ _ _ _ ⟨rfl, rfl⟩) hd13 (ADs.nil))) (fun hd15 => ?_)
   refine AWp.cut (fuel := 3) (m := [true, true, true, true, true, true, true, true, true, false, false, false]) (s := Z 68 [(0, .rv (.sl 6 (a.map Update.cells))), (1, .rv (.sl 6 (b.map Update.cells))), (6, .ptr 0 0), (14, vi ((a.length : Nat) : Int)), (15, vi ((k1_ : Nat) : Int)), (21, .agg (avs (Update.cells e1_))), (25, .agg (avs (Update.cells e2_)))] [(0, .box 54 [vi 0, vi 0, vi 0, vi 0, vi 0, .rv (.v (.slice none 0 0))])] 1) (AD.step 9 [] (ADs.cons _ rfl (AOps.he [.run 1] _ _ _ _ ⟨rfl, rfl⟩) hd14 (ADs.nil))) (fun hd16 => ?_)
   refine AWp.cut (fuel := 3) (m := [true, true, true, true, true, true, true, true, false, true, false, false]) (s := Z 68 [(0, .rv (.sl 6 (a.map Update.cells))), (1, .rv (.sl 6 (b.map Update.cells))), (7, .ptr 0 0), (14, vi ((a.length : Nat) : Int)), (15, vi ((k1_ : Nat) : Int)), (21, .agg (avs (Update.cells e1_))), (25, .agg (avs (Update.cells e2_)))] [(0, .box 54 [vi 0, vi 0, vi 0, vi 0, vi 0, .rv (.v (.slice none 0 0))])] 1) (AD.step 8 [] (ADs.cons _ rfl ?_ hd14 (ADs.nil))) (fun hd17 => ?_)
   ·
    refine AOps.hz [.run 1] 68 [(0, .rv (.sl 6 (a.map Update.cells))), (1, .rv (.sl 6 (b.map Update.cells))), (6, .ptr 1 0), (7, .ptr 0 0), (14, vi ((a.length : Nat) : Int)), (15, vi ((k1_ : Nat) : Int)), (21, .agg (avs (Update.cells e1_))), (25, .agg (avs (Update.cells e2_)))] [(0, .box 54 [vi 0, vi 0, vi 0, vi 0, vi 0, .rv (.v (.slice none 0 0))]), (1, .box 54 [vi 0, vi 0, vi 0, vi 0, vi 0, .rv (.v (.slice none 0 0))])] 2 ?_
    refine AOps.ren [1, 0] [.box 54 [vi 0, vi 0, vi 0, vi 0, vi 0, .rv (.v (.slice none 0 0))], .box 54 [vi 0, vi 0, vi 0, vi 0, vi 0, .rv (.v (.slice none 0 0))]] 68 [(0, .rv (.sl 6 (a.map Update.cells))), (1, .rv (.sl 6 (b.map Update.cells))), (6, .ptr 0 0), (7, .ptr 1 0), (14, vi ((a.length : Nat) : Int)), (15, vi ((k1_ : Nat) : Int)), (21, .agg (avs (Update.cells e1_))), (25, .agg (avs (Update.cells e2_)))] [(0, .box 54 [vi 0, vi 0, vi 0, vi 0, vi 0, .rv (.v (.slice none 0 0))]), (1, .box 54 [vi 0, vi 0, vi 0, vi 0, vi 0, .rv (.v (.slice none 0 0))])] 2 ?_
    exact AOps.nil ⟨rfl, rfl⟩
   refine AWp.cut (fuel := 3) (m := [true, true, true, true, true, true, true, false, true, true, false, false]) (s := Z 68 [(0, .rv (.sl 6 (a.map Update.cells))), (1, .rv (.sl 6 (b.map Update.cells))), (6, .ptr 0 0), (7, .ptr 1 0), (14, vi ((a.length : Nat) : Int)), (15, vi ((k1_ : Nat) : Int)), (21, .agg (avs (Update.cells e1_))), (24, .rv (.ptr (Update.cells e2_)))] [(0, .box 54 [vi 0, vi 0, vi 0, vi 0, vi 0, .rv (.v (.slice none 0 0))]), (1, .box 54 [vi 0, vi 0, vi 0, vi 0, vi 0, .rv (.v (.slice none 0 0))])] 2) (AD.step 7 [10] (ADs.cons _ rfl (AOps.he [.run 1] _ _ _ _ ⟨rfl, rfl⟩) hd14 (ADs.cons _ rfl (AOps.he [.run 1] _ _ _ _ ⟨rfl, rfl⟩) hd15 (ADs.nil)))) (fun hd18 => ?_)
   refine AWp.cut (fuel := 3) (m := [true, true, true, false, true, true, true, true, true, true, false, false]) (s := Z 68 [(0, .rv (.sl 6 (a.map Update.cells))), (1, .rv (.sl 6 (b.map Update.cells))), (6, .ptr 0 0), (7, .ptr 1 0), (14, vi ((a.length : Nat) : Int)), (15, vi ((k1_ : Nat) : Int)), (20, .rv (.ptr (Update.cells e1_))), (25, .agg (avs (Update.cells e2_)))] [(0, .box 54 [vi 0, vi 0, vi 0, vi 0, vi 0, .rv (.v (.slice none 0 0))]), (1, .box 54 [vi 0, vi 0, vi 0, vi 0, vi 0, .rv (.v (.slice none 0 0))])] 2) (AD.step 3 [] (ADs.cons _ rfl (AOps.he [.run 1] _ _ _ _ ⟨rfl, rfl⟩) hd14 (ADs.nil))) (fun hd19 => ?_)
   refine AWp.cut (fuel := 4) (m := [true, true, true, true, true, true, true, true, false, false, false, false]) (s := Z 68 [(0, .rv (.sl 6 (a.map Update.cells))), (1, .rv (.sl 6 (b.map Update.cells))), (14, vi ((a.length : Nat) : Int)), (15, vi ((k1_ : Nat) : Int)), (21, .agg (avs (Update.cells e1_))), (25, .agg (avs (Update.cells e2_)))] [] 0) (AD.step 8 [9] (ADs.cons _ rfl (AOps.he [.run 1] _ _ _ _ ⟨rfl, rfl⟩) hd16 (ADs.cons _ rfl (AOps.he [.run 1] _ _ _ _ ⟨rfl, rfl⟩) hd17 (ADs.nil)))) (fun hd20 => ?_)
   refine AWp.cut (fuel := 4) (m := [true, true, true, true, true, true, true, false, true, false, false, false]) (s := Z 68 [(0, .rv (.sl 6 (a.map Update.cells))), (1, .rv (.sl 6 (b.map Update.cells))), (6, .ptr 0 0), (14, vi ((a.length : Nat) : Int)), (15, vi ((k1_ : Nat) : Int)), (21, .agg (avs (Update.cells e1_))), (24, .rv (.ptr (Update.cells e2_)))] [(0, .box 54 [vi 0, vi 0, vi 0, vi 0, vi 0, .rv (.v (.slice none 0 0))])] 1) (AD.step 7 [9] (ADs.cons _ rfl (AOps.he [.run 1] _ _ _ _ ⟨rfl, rfl⟩) hd16 (ADs.cons _ rfl (AOps.he [.run 1] _ _ _ _ ⟨rfl, rfl⟩) hd18 (ADs.nil)))) (fun hd21 => ?_)
   refine AWp.cut (fuel := 4) (m := [true, true, true, true, true, true, true, false, false, true, false, false]) (s := Z 68 [(0, .rv (.sl 6 (a.map Update.cells))), (1, .rv (.sl 6 (b.map Update.cells))), (7, .ptr 0 0), (14, vi ((a.length : Nat) : Int)), (15, vi ((k1_ : Nat) : Int)), (21, .agg (avs (Update.cells e1_))), (24, .rv (.ptr (Update.cells e2_)))] [(0, .box 54 [vi 0, vi 0, vi 0, vi 0, vi 0, .rv (.v (.slice none 0 0))])] 1) (AD.step 7 [8] (ADs.cons _ rfl (AOps.he [.run 1] _ _ _ _ ⟨rfl, rfl⟩) hd17 (ADs.cons _ rfl ?_ hd18 (ADs.nil)))) (fun hd22 => ?_)
   ·
    refine AOps.hz [.run 1] 68 [(0, .rv (.sl 6 (a.map Update.cells))), (1, .rv (.sl 6 (b.map Update.cells))), (6, .ptr 1 0), (7, .ptr 0 0), (14, vi ((a.length : Nat) : Int)), (15, vi ((k1_ : Nat) : Int)), (21, .agg (avs (Update.cells e1_))), (24, .rv (.ptr (Update.cells e2_)))] [(0, .box 54 [vi 0, vi 0, vi 0, vi 0, vi 0, .rv (.v (.slice none 0 0))]), (1, .box 54 [vi 0, vi 0, vi 0, vi 0, vi 0, .rv (.v (.slice none 0 0))])] 2 ?_
    refine AOps.ren [1, 0] [.box 54 [vi 0, vi 0, vi 0, vi 0, vi 0, .rv (.v (.slice none 0 0))], .box 54 [vi 0, vi 0, vi 0, vi 0, vi 0, .rv (.v (.slice none 0 0))]] 68 [(0, .rv (.sl 6 (a.map Update.cells))), (1, .rv (.sl 6 (b.map Update.cells))), (6, .ptr 0 0), (7, .ptr 1 0), (14, vi ((a.length : Nat) : Int)), (15, vi ((k1_ : Nat) : Int)), (21, .agg (avs (Update.cells e1_))), (24, .rv (.ptr (Update.cells e2_)))] [(0, .box 54 [vi 0, vi 0, vi 0, vi 0, vi 0, .rv (.v (.slice none 0 0))]), (1, .box 54 [vi 0, vi 0, vi 0, vi 0, vi 0, .rv (.v (.slice none 0 0))])] 2 ?_
    exact AOps.nil ⟨rfl, rfl⟩
   refine AWp.cut (fuel := 4) (m := [true, true, true, false, true, true, true, true, true, false, false, false]) (s := Z 68 [(0, .rv (.sl 6 (a.map Update.cells))), (1, .rv (.sl 6 (b.map Update.cells))), (6, .ptr 0 0), (14, vi ((a.length : Nat) : Int)), (15, vi ((k1_ : Nat) : Int)), (20, .rv (.ptr (Update.cells e1_))), (25, .agg (avs (Update.cells e2_)))] [(0, .box 54 [vi 0, vi 0, vi 0, vi 0, vi 0, .rv (.v (.slice none 0 0))])] 1) (AD.step 3 [9] (ADs.cons _ rfl (AOps.he [.run 1] _ _ _ _ ⟨rfl, rfl⟩) hd16 (ADs.cons _ rfl (AOps.he [.run 1] _ _ _ _ ⟨rfl, rfl⟩) hd19 (ADs.nil)))) (fun hd23 => ?_)
   refine AWp.cut (fuel := 4) (m := [true, true, true, false, true, true, true, true, false, true, false, false]) (s := Z 68 [(0, .rv (.sl 6 (a.map Update.cells))), (1, .rv (.sl 6 (b.map Update.cells))), (7, .ptr 0 0), (14, vi ((a.length : Nat) : Int)), (15, vi ((k1_ : Nat) : Int)), (20, .rv (.ptr (Update.cells e1_))), (25, .agg (avs (Update.cells e2_)))] [(0, .box 54 [vi 0, vi 0, vi 0, vi 0, vi 0, .rv (.v (.slice none 0 0))])] 1) (AD.step 3 [8] (ADs.cons _ rfl (AOps.he [.run 1] _ _ _ _ ⟨rfl, rfl⟩) hd17 (ADs.cons _ rfl ?_ hd19 (ADs.nil)))) (fun hd24 => ?_)
   ·
    refine AOps.hz [.run 1] 68 [(0, .rv (.sl 6 (a.map Update.cells))), (1, .rv (.sl 6 (b.map Update.cells))), (6, .ptr 1 0), (7, .ptr 0 0), (14, vi ((a.length : Nat) : Int)), (15, vi ((k1_ : Nat) : Int)), (20, .rv (.ptr (Update.cells e1_))), (25, .agg (avs (Update.cells e2_)))] [(0, .box 54 [vi 0, vi 0, vi 0, vi 0, vi 0, .rv (.v (.slice none 0 0))]), (1, .box 54 [vi 0, vi 0, vi 0, vi 0, vi 0, .rv (.v (.slice none 0 0))])] 2 ?_
    refine AOps.ren [1, 0] [.box 54 [vi 0, vi 0, vi 0, vi 0, vi 0, .rv (.v (.slice none 0 0))], .box 54 [vi 0, vi 0, vi 0, vi 0, vi 0, .rv (.v (.slice none 0 0))]] 68 [(0, .rv (.sl 6 (a.map Update.cells))), (1, .rv (.sl 6 (b.map Update.cells))), (6, .ptr 0 0), (7, .ptr 1 0), (14, vi ((a.length : Nat) : Int)), (15, vi ((k1_ : Nat) : Int)), (20, .rv (.ptr (Update.cells e1_))), (25, .agg (avs (Update.cells e2_)))] [(0, .box 54 [vi 0, vi 0, vi 0, vi 0, vi 0, .rv (.v (.slice none 0 0))]), (1, .box 54 [vi 0, vi 0, vi 0, vi 0, vi 0, .rv (.v (.slice none 0 0))])] 2 ?_
    exact AOps.nil ⟨rfl, rfl⟩
   refine AWp.cut (fuel := 4) (m := [true, true, true, false, true, true, true, false, true, true, false, false]) (s := Z 68 [(0, .rv (.sl 6 (a.map Update.cells))), (1, .rv (.sl 6 (b.map Update.cells))), (6, .ptr 0 0), (7, .ptr 1 0), (14, vi ((a.length : Nat) : Int)), (15, vi ((k1_ : Nat) : Int)), (20, .rv (.ptr (Update.cells e1_))), (24, .rv (.ptr (Update.cells e2_)))] [(0, .box 54 [vi 0, vi 0, vi 0, vi 0, vi 0, .rv (.v (.slice none 0 0))]), (1, .box 54 [vi 0, vi 0, vi 0, vi 0, vi 0, .rv (.v (.slice none 0 0))])] 2) (AD.step 3 [7] (ADs.cons _ rfl (AOps.he [.run 1] _ _ _ _ ⟨rfl, rfl⟩) hd18 (ADs.cons _ rfl (AOps.he [.run 1] _ _ _ _ ⟨rfl, rfl⟩) hd19 (ADs.nil)))) (fun hd25 => ?_)
   refine AWp.cut (fuel := 5) (m := [true, true, true, true, true, true, true, false, false, false, false, false]) (s := Z 68 [(0, .rv (.sl 6 (a.map Update.cells))), (1, .rv (.sl 6 (b.map Update.cells))), (14, vi ((a.length : Nat) : Int)), (15, vi ((k1_ : Nat) : Int)), (21, .agg (avs (Update.cells e1_))), (24, .rv (.ptr (Update.cells e2_)))] [] 0) (AD.step 7 [8, 9] (ADs.cons _ rfl (AOps.he [.run 1] _ _ _ _ ⟨rfl, rfl⟩) hd20 (ADs.cons _ rfl (AOps.he [.run 1] _ _ _ _ ⟨rfl, rfl⟩) hd21 (ADs.cons _ rfl (AOps.he [.run 1] _ _ _ _ ⟨rfl, rfl⟩) hd22 (ADs.nil))))) (fun hd26 => ?_)
   refine AWp.cut (fuel := 5) (m := [true, true, true, false, true, true, true, true, false, false, false, false]) (s := Z 68 [(0, .rv (.sl 6 (a.map Update.cells))), (1, .rv (.sl 6 (b.map Update.cells))), (14, vi ((a.length : Nat) : Int)), (15, vi ((k1_ : Nat) : Int)), (20, .rv (.ptr (Update.cells e1_))), (25, .agg (avs (Update.cells e2_)))] [] 0) (AD.step 3 [8, 9] (ADs.cons _ rfl (AOps.he [.run 1] _ _ _ _ ⟨rfl, rfl⟩) hd20 (ADs.cons _ rfl (AOps.he [.run 1] _ _ _ _ ⟨rfl, rfl⟩) hd23 (ADs.cons _ rfl (AOps.he [.run 1] _ _ _ _ ⟨rfl, rfl⟩) hd24 (ADs.nil))))) (fun hd27 => ?_)
   refine AWp.cut (fuel := 5) (m := [true, true, true, false, true, true, true, false, true, false, false, false]) (s := Z 68 [(0, .rv (.sl 6 (a.map Update.cells))), (1, .rv (.sl 6 (b.map Update.cells))), (6, .ptr 0 0), (14, vi ((a.length : Nat) : Int)), (15, vi ((k1_ : Nat) : Int)), (20, .rv (.ptr (Update.cells e1_))), (24, .rv (.ptr (Update.cells e2_)))] [(0, .box 54 [vi 0, vi 0, vi 0, vi 0, vi 0, .rv (.v (.slice none 0 0))])] 1) (AD.step 3 [7, 9] (ADs.cons _ rfl (AOps.he [.run 1] _ _ _ _ ⟨rfl, rfl⟩) hd21 (ADs.cons _ rfl (AOps.he [.run 1] _ _ _ _ ⟨rfl, rfl⟩) hd23 (ADs.cons _ rfl (AOps.he [.run 1] _ _ _ _ ⟨rfl, rfl⟩) hd25 (ADs.nil))))) (fun hd28 => ?_)
   refine AWp.cut (fuel := 5) (m := [true, true, true, false, true, true, true, false, false, true, false, false]) (s := Z 68 [(0, .rv (.sl 6 (a.map Update.cells))), (1, .rv (.sl 6 (b.map Update.cells))), (7, .ptr 0 0), (14, vi ((a.length : Nat) : Int)), (15, vi ((k1_ : Nat) : Int)), (20, .rv (.ptr (Update.cells e1_))), (24, .rv (.ptr (Update.cells e2_)))] [(0, .box 54 [vi 0, vi 0, vi 0, vi 0, vi 0, .rv (.v (.slice none 0 0))])] 1) (AD.step 3 [7, 8] (ADs.cons _ rfl (AOps.he [.run 1] _ _ _ _ ⟨rfl, rfl⟩) hd22 (ADs.cons _ rfl (AOps.he [.run 1] _ _ _ _ ⟨rfl, rfl⟩) hd24 (ADs.cons _ rfl ?_ hd25 (ADs.nil))))) (fun hd29 => ?_)
   ·
    refine AOps.hz [.run 1] 68 [(0, .rv (.sl 6 (a.map Update.cells))), (1, .rv (.sl 6 (b.map Update.cells))), (6, .ptr 1 0), (7, .ptr 0 0), (14, vi ((a.length : Nat) : Int)), (15, vi ((k1_ : Nat) : Int)), (20, .rv (.ptr (Update.cells e1_))), (24, .rv (.ptr (Update.cells e2_)))] [(0, .box 54 [vi 0, vi 0, vi 0, vi 0, vi 0, .rv (.v (.slice none 0 0))]), (1, .box 54 [vi 0, vi 0, vi 0, vi 0, vi 0, .rv (.v (.slice none 0 0))])] 2 ?_
    refine AOps.ren [1, 0] [.box 54 [vi 0, vi 0, vi 0, vi 0, vi 0, .rv (.v (.slice none 0 0))], .box 54 [vi 0, vi 0, vi 0, vi 0, vi 0, .rv (.v (.slice none 0 0))]] 68 [(0, .rv (.sl 6 (a.map Update.cells))), (1, .rv (.sl 6 (b.map Update.cells))), (6, .ptr 0 0), (7, .ptr 1 0), (14, vi ((a.length : Nat) : Int)), (15, vi ((k1_ : Nat) : Int)), (20, .rv (.ptr (Update.cells e1_))), (24, .rv (.ptr (Update.cells e2_)))] [(0, .box 54 [vi 0, vi 0, vi 0, vi 0, vi 0, .rv (.v (.slice none 0 0))]), (1, .box 54 [vi 0, vi 0, vi 0, vi 0, vi 0, .rv (.v (.slice none 0 0))])] 2 ?_
    exact AOps.nil ⟨rfl, rfl⟩
   refine AWp.cut (fuel := 6) (m := [true, true, true, false, true, true, true, false, false, false, false, false]) (s := Z 68 [(0, .rv (.sl 6 (a.map Update.cells))), (1, .rv (.sl 6 (b.map Update.cells))), (14, vi ((a.length : Nat) : Int)), (15, vi ((k1_ : Nat) : Int)), (20, .rv (.ptr (Update.cells e1_))), (24, .rv (.ptr (Update.cells e2_)))] [] 0) (AD.step 3 [7, 8, 9] (ADs.cons _ rfl (AOps.he [.run 1] _ _ _ _ ⟨rfl, rfl⟩) hd26 (ADs.cons _ rfl (AOps.he [.run 1] _ _ _ _ ⟨rfl, rfl⟩) hd27 (ADs.cons _ rfl (AOps.he [.run 1] _ _ _ _ ⟨rfl, rfl⟩) hd28 (ADs.cons _ rfl (AOps.he [.run 1] _ _ _ _ ⟨rfl, rfl⟩) hd29 (ADs.nil)))))) (fun hd30 => ?_)
   refine AWp.cut (fuel := 7) (m := [true, true, true, false, true, true, false, false, false, false, false, false]) (s := Z 68 [(0, .rv (.sl 6 (a.map Update.cells))), (1, .rv (.sl 6 (b.map Update.cells))), (14, vi ((a.length : Nat) : Int)), (15, vi ((k1_ : Nat) : Int)), (20, .rv (.ptr (Update.cells e1_))), (22, .rv (.sl 6 (b.map Update.cells))), (23, vi ((k1_ : Nat) : Int))] [] 0) (AD.tkI 6 Update.cells b 6 k1_ he2_ _ _ _ _ hd30) (fun hd31 => ?_)
   refine AWp.cut (fuel := 8) (m := [true, true, true, false, true, false, false, false, false, false, false, false]) (s := Z 68 [(0, .rv (.sl 6 (a.map Update.cells))), (1, .rv (.sl 6 (b.map Update.cells))), (5, vi ((k1_ : Nat) : Int)), (14, vi ((a.length : Nat) : Int)), (15, vi ((k1_ : Nat) : Int)), (20, .rv (.ptr (Update.cells e1_))), (22, .rv (.sl 6 (b.map Update.cells)))] [] 0) (AD.tk 5 _ _ _ _ hd31) (fun hd32 => ?_)
   refine AWp.cut (fuel := 9) (m := [true, true, true, false, false, false, false, false, false, false, false, false]) (s := Z 68 [(0, .rv (.sl 6 (a.map Update.cells))), (1, .rv (.sl 6 (b.map Update.cells))), (5, vi ((k1_ : Nat) : Int)), (14, vi ((a.length : Nat) : Int)), (15, vi ((k1_ : Nat) : Int)), (20, .rv (.ptr (Update.cells e1_)))] [] 0) (AD.tk 4 _ _ _ _ hd32) (fun hd33 => ?_)
   refine AWp.cut (fuel := 10) (m := [true, true, false, false, false, false, false, false, false, false, false, false]) (s := Z 68 [(0, .rv (.sl 6 (a.map Update.cells))), (1, .rv (.sl 6 (b.map Update.cells))), (5, vi ((k1_ : Nat) : Int)), (14, vi ((a.length : Nat) : Int)), (15, vi ((k1_ : Nat) : Int)), (18, .rv (.sl 6 (a.map Update.cells))), (19, vi ((k1_ : Nat) : Int))] [] 0) (AD.tkI 2 Update.cells a 6 k1_ he1_ _ _ _ _ hd33) (fun hd34 => ?_)
   refine AWp.cut (fuel := 11) (m := [true, false, false, false, false, false, false, false, false, false, false, false]) (s := Z 68 [(0, .rv (.sl 6 (a.map Update.cells))), (1, .rv (.sl 6 (b.map Update.cells))), (5, vi ((k1_ : Nat) : Int)), (14, vi ((a.length : Nat) : Int)), (15, vi ((k1_ : Nat) : Int)), (18, .rv (.sl 6 (a.map Update.cells)))] [] 0) (AD.tk 1 _ _ _ _ hd34) (fun hd35 => ?_)
   refine AWp.cut (fuel := 12) (m := [false, false, false, false, false, false, false, false, false, false, false, false]) (s := Z 68 [(0, .rv (.sl 6 (a.map Update.cells))), (1, .rv (.sl 6 (b.map Update.cells))), (5, vi ((k1_ : Nat) : Int)), (14, vi ((a.length : Nat) : Int)), (15, vi ((k1_ : Nat) : Int))] [] 0) (AD.tk 0 _ _ _ _ hd35) (fun hd36 => ?_)
   exact AWp.drawnA 12 leZ hd36
  ·
   have h5' := of_decide_eq_false h5
   refine AWp.exit ?_
   have hL1_ : sameM_L1 a b = none := scanN_end hs1_ (by omega)
   refine AWp.hz [.run 1] 68 [(4, vb true)] [] 0 ?_
   refine AWp.ret ?_
   exact leafR (r := vb true) (by unfold sameM; (try rw [h3]); (try rw [hL1_]); first | done | kernel_rfl)
def samePairsM_B1 (a b : List Pair) (k1_ : Nat) : Option Bool :=
  (match (a)[k1_]? with | some e1_ => (match (b)[k1_]? with | some e2_ => (bif !((e1_.a0 == e2_.a0) && ((e1_.a1 == e2_.a1) && true)) then some false else none) | none => none) | none => none)
def samePairsM_L1 (a b : List Pair) : Option Bool := scanN (samePairsM_B1 a b) 0 a.length
def samePairsM (a b : List Pair) : Bool :=
  (bif (((a.length : Nat) : Int) != ((b.length : Nat) : Int)) then false else (samePairsM_L1 a b).getD true)
theorem samePairsM_ok (a b : List Pair) :
 ACalls Try.prog G_ 18 [.rv (.sl 2 (a.map Pair.cells)), .rv (.sl 2 (b.map Pair.cells))] [] 0 (fun r τ => r = vb (samePairsM a b) ∧ τ = []) := by
 refine ACalls.body Try.func18 rfl 26 [(0, .rv (.sl 2 (a.map Pair.cells))), (1, .rv (.sl 2 (b.map Pair.cells)))] ?_
 refine AWp.hz [.run 1] 26 [(0, .rv (.sl 2 (a.map Pair.cells))), (1, .rv (.sl 2 (b.map Pair.cells)))] [] 0 ?_
 refine AWp.seq ?_
 refine AWp.hzl [.run 1, .len Pair.cells a 2, .run 1, .len Pair.cells b 2, .run 1] 26 [(0, .rv (.sl 2 (a.map Pair.cells))), (1, .rv (.sl 2 (b.map Pair.cells))), (10, vb (((a.length : Nat) : Int) != ((b.length : Nat) : Int)))] [] 0 (fun hl => ?_)
 obtain ⟨hn1, hn2, -⟩ := hl
 refine AWp.cnd ((((a.length : Nat) : Int) != ((b.length : Nat) : Int))) (fun h3 => ?_) (fun h3 => ?_)
 ·
  have h3' := bne_t h3
  refine AWp.hz [.run 1] 26 [(4, vb false)] [] 0 ?_
  refine AWp.ret ?_
  exact leafR (r := vb false) (by unfold samePairsM; (try rw [h3]); first | done | kernel_rfl)
 ·
  have h3' := bne_f h3
  refine AWp.skip ?_
  refine AWp.seq ?_
  refine AWp.hzl [.run 1, .len Pair.cells a 2, .run 1] 26 [(0, .rv (.sl 2 (a.map Pair.cells))), (1, .rv (.sl 2 (b.map Pair.cells))), (12, vi ((a.length : Nat) : Int)), (13, vi 0)] [] 0 (fun hl => ?_)
  obtain ⟨hn4, -⟩ := hl
  refine AWp.block ?_
  refine AWp.loop (ι := Nat) (fun k1_ => Z 26 [(0, .rv (.sl 2 (a.map Pair.cells))), (1, .rv (.sl 2 (b.map Pair.cells))), (12, vi ((a.length : Nat) : Int)), (13, vi ((k1_ : Nat) : Int))] [] 0) (fun k1_ => k1_ ≤ a.length ∧ samePairsM_L1 a b = scanN (samePairsM_B1 a b) k1_ (a.length - k1_)) (fun k1_ => a.length - k1_) 0 leZ ⟨Nat.zero_le _, rfl⟩ ?_
  intro k1_ ⟨hk1_, hs1_⟩
  refine AWp.hz [.run 1] 26 [(0, .rv (.sl 2 (a.map Pair.cells))), (1, .rv (.sl 2 (b.map Pair.cells))), (12, vi ((a.length : Nat) : Int)), (13, vi ((k1_ : Nat) : Int)), (14, vb (decide (((k1_ : Nat) : Int) < ((a.length : Nat) : Int))))] [] 0 ?_
  refine AWp.seq ?_
  refine AWp.cnd (decide (((k1_ : Nat) : Int) < ((a.length : Nat) : Int))) (fun h5 => ?_) (fun h5 => ?_)
  ·
   have h5' := of_decide_eq_true h5
   refine AWp.skip ?_
   refine AWp.seq ?_
   refine AWp.block ?_
   refine AWp.hz [.run 2] 26 [(0, .rv (.sl 2 (a.map Pair.cells))), (1, .rv (.sl 2 (b.map Pair.cells))), (5, vi ((k1_ : Nat) : Int)), (12, vi ((a.length : Nat) : Int)), (13, vi ((k1_ : Nat) : Int))] [] 0 ?_
   obtain ⟨e1_, he1_⟩ := getEx (l := a) (j := k1_) (by omega)
   obtain ⟨e2_, he2_⟩ := getEx (l := b) (j := k1_) (by omega)
   refine AWp.dz [.rv (.sl 2 (a.map Pair.cells)), vi ((k1_ : Nat) : Int), .rv (.ptr (Pair.cells e1_)), .agg (avs (Pair.cells e1_)), .rv (.sl 2 (b.map Pair.cells)), vi ((k1_ : Nat) : Int), .rv (.ptr (Pair.cells e2_)), .agg (avs (Pair.cells e2_)), vb (!((e1_.a0 == e2_.a0) && ((e1_.a1 == e2_.a1) && true)))] 26 [(0, .rv (.sl 2 (a.map Pair.cells))), (1, .rv (.sl 2 (b.map Pair.cells))), (12, vi ((a.length : Nat) : Int)), (13, vi ((k1_ : Nat) : Int)), (24, vb (!((e1_.a0 == e2_.a0) && ((e1_.a1 == e2_.a1) && true))))] [] 0 ?_ ?_
   ·
    refine DSteps.cons (DStep.va) ?_
    refine DSteps.cons (DStep.va) ?_
    refine DSteps.cons (DStep.vs (by kernel_rfl) (R_indexAddrM Pair.cells a 2 k1_ rfl (by kernel_rfl) (by kernel_rfl) (by kernel_rfl) he1_)) ?_
    refine DSteps.cons (DStep.va) ?_
    refine DSteps.cons (DStep.va) ?_
    refine DSteps.cons (DStep.va) ?_
    refine DSteps.cons (DStep.vs (by kernel_rfl) (R_indexAddrM Pair.cells b 2 k1_ rfl (by kernel_rfl) (by kernel_rfl) (by kernel_rfl) he2_)) ?_
    refine DSteps.cons (DStep.va) ?_
    refine DSteps.cons (DStep.va) ?_
    exact DSteps.nl
   refine AWp.cnd (!((e1_.a0 == e2_.a0) && ((e1_.a1 == e2_.a1) && true))) (fun h6 => ?_) (fun h6 => ?_)
   ·
    refine AWp.hz [.run 1] 26 [(4, vb false)] [] 0 ?_
    refine AWp.ret ?_
    have hL1_ : samePairsM_L1 a b = some false := scanN_some hs1_ (by omega) (by unfold samePairsM_B1; (try simp only [he1_]); (try simp only [he2_]); (try rw [h5]); (try rw [h6]); first | done | kernel_rfl)
    exact leafR (r := vb false) (by unfold samePairsM; (try rw [h3]); (try rw [hL1_]); first | done | kernel_rfl)
   ·
    refine AWp.skip ?_
    refine AWp.he [.cast (vi (IntKind.i64.wrap (((k1_ : Nat) : Int) + 1))) (vi ((k1_ + 1 : Nat) : Int)) (congrArg vi (wrap_nat (by omega))), .run 1] 26 [(0, .rv (.sl 2 (a.map Pair.cells))), (1, .rv (.sl 2 (b.map Pair.cells))), (12, vi ((a.length : Nat) : Int)), (13, vi ((k1_ + 1 : Nat) : Int))] [] 0 ?_
    exact ⟨k1_ + 1, ⟨by omega, scanN_none hs1_ (by omega) (by unfold samePairsM_B1; (try simp only [he1_]); (try simp only [he2_]); (try rw [h5]); (try rw [h6]); first | done | kernel_rfl)⟩, by omega, leG⟩
  ·
   have h5' := of_decide_eq_false h5
   refine AWp.exit ?_
   have hL1_ : samePairsM_L1 a b = none := scanN_end hs1_ (by omega)
   refine AWp.hz [.run 1] 26 [(4, vb true)] [] 0 ?_
   refine AWp.ret ?_
   exact leafR (r := vb true) (by unfold samePairsM; (try rw [h3]); (try rw [hL1_]); first | done | kernel_rfl)
def numbersM (d : Dev) : Bool :=
  (bif ((decide (d.id < 1) || (decide (d.id > 250) || decide (d.vendor < 0))) || decide (d.vendor > 255)) then false else (bif d.sleepy then (decide (d.poll ≥ 4) && decide (d.poll ≤ 3600)) else (d.poll == 0)))
theorem numbersM_ok (d : Dev) :
 ACalls Try.prog G_ 56 [.agg (avs (Dev.cells d))] [] 0 (fun r τ => r = vb (numbersM d) ∧ τ = []) := by
 refine ACalls.body Try.func56 rfl 34 [(0, .agg (avs (Dev.cells d)))] ?_
 refine AWp.hz [.run 2] 34 [(1, .ptr 0 0)] [(0, .box 49 (avs (Dev.cells d)))] 1 ?_
 refine AWp.seq ?_
 refine AWp.join (Z 34 [(1, .ptr 0 0), (20, vb ((decide (d.id < 1) || (decide (d.id > 250) || decide (d.vendor < 0))) || decide (d.vendor > 255)))] [(0, .box 49 (avs (Dev.cells d)))] 1) ?_ ?_
 ·
  refine AWp.region ?_
  refine AOps.hg [.run 4] (decide (d.id < 1)) 34 (fun b_ => [(1, .ptr 0 0), (6, vb b_)]) [(0, .box 49 (avs (Dev.cells d)))] 1 (fun hg1 => ?_) (fun hg1 => ?_)
  ·
   have hg1' := of_decide_eq_true hg1
   refine AOps.he [.run 14] 34 [(1, .ptr 0 0), (20, vb true)] [(0, .box 49 (avs (Dev.cells d)))] 1 ?_
   exact leZ (by rw [hg1]; first | done | kernel_rfl)
  ·
   have hg1' := of_decide_eq_false hg1
   refine AOps.hg [.run 5] (decide (d.id > 250)) 34 (fun b_ => [(1, .ptr 0 0), (11, vb b_)]) [(0, .box 49 (avs (Dev.cells d)))] 1 (fun hg2 => ?_) (fun hg2 => ?_)
   ·
    have hg2' := of_decide_eq_true hg2
    refine AOps.he [.run 9] 34 [(1, .ptr 0 0), (20, vb true)] [(0, .box 49 (avs (Dev.cells d)))] 1 ?_
    exact leZ (by rw [hg1, hg2]; first | done | kernel_rfl)
   ·
    have hg2' := of_decide_eq_false hg2
    refine AOps.hg [.run 5] (decide (d.vendor < 0)) 34 (fun b_ => [(1, .ptr 0 0), (16, vb b_)]) [(0, .box 49 (avs (Dev.cells d)))] 1 (fun hg3 => ?_) (fun hg3 => ?_)
    ·
     have hg3' := of_decide_eq_true hg3
     refine AOps.he [.run 4] 34 [(1, .ptr 0 0), (20, vb true)] [(0, .box 49 (avs (Dev.cells d)))] 1 ?_
     exact leZ (by rw [hg1, hg2, hg3]; first | done | kernel_rfl)
    ·
     have hg3' := of_decide_eq_false hg3
     refine AOps.he [.run 4] 34 [(1, .ptr 0 0), (20, vb (decide (d.vendor > 255)))] [(0, .box 49 (avs (Dev.cells d)))] 1 ?_
     exact leZ (by rw [hg1, hg2, hg3]; first | done | kernel_rfl)
 ·
  refine AWp.cnd (((decide (d.id < 1) || (decide (d.id > 250) || decide (d.vendor < 0))) || decide (d.vendor > 255))) (fun h4 => ?_) (fun h4 => ?_)
  ·
   refine AWp.hz [.run 1] 34 [(2, vb false)] [] 1 ?_
   refine AWp.ret ?_
   exact leafR (r := vb false) (by unfold numbersM; (try rw [h4]); first | done | kernel_rfl)
  ·
   have h4l := or_fl h4
   have h4ll := or_fl h4l
   have h4ll' := of_decide_eq_false h4ll
   have h4lr := or_fr h4l
   have h4lrl := or_fl h4lr
   have h4lrl' := of_decide_eq_false h4lrl
   have h4lrr := or_fr h4lr
   have h4lrr' := of_decide_eq_false h4lrr
   have h4r := or_fr h4
   have h4r' := of_decide_eq_false h4r
   refine AWp.skip ?_
   refine AWp.seq ?_
   refine AWp.hz [.run 2] 34 [(1, .ptr 0 0), (22, vb d.sleepy)] [(0, .box 49 (avs (Dev.cells d)))] 1 ?_
   refine AWp.cnd (d.sleepy) (fun h5 => ?_) (fun h5 => ?_)
   ·
    refine AWp.join (Z 34 [(2, vb (decide (d.poll ≥ 4) && decide (d.poll ≤ 3600)))] [] 1) ?_ ?_
    ·
     refine AWp.region ?_
     refine AOps.hg [.run 4] (decide (d.poll ≥ 4)) 34 (fun b_ => [(1, .ptr 0 0), (26, vb b_)]) [(0, .box 49 (avs (Dev.cells d)))] 1 (fun hg6 => ?_) (fun hg6 => ?_)
     ·
      have hg6' := of_decide_eq_true hg6
      refine AOps.he [.run 5] 34 [(2, vb (decide (d.poll ≤ 3600)))] [] 1 ?_
      exact leZ (by rw [hg6]; first | done | kernel_rfl)
     ·
      have hg6' := of_decide_eq_false hg6
      refine AOps.he [.run 5] 34 [(2, vb false)] [] 1 ?_
      exact leZ (by rw [hg6]; first | done | kernel_rfl)
    ·
     refine AWp.ret ?_
     exact leafR (r := vb (decide (d.poll ≥ 4) && decide (d.poll ≤ 3600))) (by unfold numbersM; (try rw [h4]); (try rw [h5]); first | done | kernel_rfl)
   ·
    refine AWp.skip ?_
    refine AWp.hz [.run 4] 34 [(2, vb (d.poll == 0))] [] 1 ?_
    refine AWp.ret ?_
    exact leafR (r := vb (d.poll == 0)) (by unfold numbersM; (try rw [h4]); (try rw [h5]); first | done | kernel_rfl)
def stopped1M (u : Update) : Bool :=
  (u.status == 5)
theorem stopped1M_ok (u : Update) :
 ACalls Try.prog G_ 40 [.agg (avs (Update.cells u))] [] 0 (fun r τ => r = vb (stopped1M u) ∧ τ = []) := by
 refine ACalls.body Try.func40 rfl 6 [(0, .agg (avs (Update.cells u)))] ?_
 refine AWp.hz [.run 2] 6 [(1, .ptr 0 0)] [(0, .box 54 (avs (Update.cells u)))] 1 ?_
 refine AWp.hz [.run 4] 6 [(2, vb (u.status == 5))] [] 1 ?_
 refine AWp.ret ?_
 exact leafR (r := vb (u.status == 5)) (by unfold stopped1M; first | done | kernel_rfl)
end Go.Proofs.Ytjgpnceaicijcaa
