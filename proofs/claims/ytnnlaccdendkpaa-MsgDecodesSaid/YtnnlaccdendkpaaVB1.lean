/- Messages: the small functions, numbers as bytes. -/
import Derived.Test.YtnnlaccdendkpaaVA7
import Derived.Test.YtnnlaccdendkpaaVNl
namespace Go.Proofs.Ytnnlaccdendkpaa
open Go Go.Av Go.Hh Go.Proofs
set_option maxRecDepth 100000
set_option maxHeartbeats 4000000
def numbersM (d : Dev) : Bool :=
 (bif ((decide (d.id < 1) || (decide (d.id > 250) || decide (d.vendor < 0))) || decide (d.vendor > 255)) then false else (bif d.sleepy then (decide (d.poll ≥ 4) && decide (d.poll ≤ 3600)) else (d.poll == 0)))
abbrev numbersM_c1 (d : Dev) : Nat × AObj := (0, .box 60 (avs (Dev.cells d)))
theorem numbersM_ok (d : Dev) :
 ACalls Try.prog G_ 87 [.agg (avs (Dev.cells d))] [] 0 (fun r τ => r = vb (numbersM d) ∧ τ = []) := by
 refine ACalls.body Try.func87 rfl 34 [(0, .agg (avs (Dev.cells d)))] ?_
 refine AWp.hz [.run 2] 34 [(1, .ptr 0 0)] [(numbersM_c1 d)] 1 ?_
 refine AWp.seq ?_
 refine AWp.join (Z 34 [(1, .ptr 0 0), (20, vb ((decide (d.id < 1) || (decide (d.id > 250) || decide (d.vendor < 0))) || decide (d.vendor > 255)))] [(0, .box 60 (avs (Dev.cells d)))] 1) ?_ ?_
 ·
  refine AWp.region ?_
  refine AOps.hg [.run 4] (decide (d.id < 1)) 34 (fun b_ => [(1, .ptr 0 0), (6, vb b_)]) [(numbersM_c1 d)] 1 (fun hg1 => ?_) (fun hg1 => ?_)
  ·
   have hg1' := of_decide_eq_true hg1
   refine AOps.he [.run 14] 34 [(1, .ptr 0 0), (20, vb true)] [(numbersM_c1 d)] 1 ?_
   exact leZ (by rw [hg1]; try kernel_rfl)
  ·
   have hg1' := of_decide_eq_false hg1
   refine AOps.hg [.run 5] (decide (d.id > 250)) 34 (fun b_ => [(1, .ptr 0 0), (11, vb b_)]) [(numbersM_c1 d)] 1 (fun hg2 => ?_) (fun hg2 => ?_)
   ·
    have hg2' := of_decide_eq_true hg2
    refine AOps.he [.run 9] 34 [(1, .ptr 0 0), (20, vb true)] [(numbersM_c1 d)] 1 ?_
    exact leZ (by rw [hg1, hg2]; try kernel_rfl)
   ·
    have hg2' := of_decide_eq_false hg2
    refine AOps.hg [.run 5] (decide (d.vendor < 0)) 34 (fun b_ => [(1, .ptr 0 0), (16, vb b_)]) [(numbersM_c1 d)] 1 (fun hg3 => ?_) (fun hg3 => ?_)
    ·
     have hg3' := of_decide_eq_true hg3
     refine AOps.he [.run 4] 34 [(1, .ptr 0 0), (20, vb true)] [(numbersM_c1 d)] 1 ?_
     exact leZ (by rw [hg1, hg2, hg3]; try kernel_rfl)
    ·
     have hg3' := of_decide_eq_false hg3
     refine AOps.he [.run 4] 34 [(1, .ptr 0 0), (20, vb (decide (d.vendor > 255)))] [(numbersM_c1 d)] 1 ?_
     exact leZ (by rw [hg1, hg2, hg3]; try kernel_rfl)
 ·
  refine AWp.cnd (((decide (d.id < 1) || (decide (d.id > 250) || decide (d.vendor < 0))) || decide (d.vendor > 255))) (fun h4 => ?_) (fun h4 => ?_)
  ·
   refine AWp.hz [.run 1] 34 [(2, vb false)] [] 1 ?_
   refine AWp.ret ?_
   exact leafR (r := vb false) (by unfold numbersM; (try rw [h4]); try kernel_rfl)
  ·
   have h4l := or_fl h4
   have h4ll := or_fl h4l
   have h4ll' := of_decide_eq_false h4ll
   have h4lr := or_fr h4l
   have h4lrl := or_fl h4lr
   have h4lrl' := of_decide_eq_false h4lrl
   have h4lrr := or_fr h4lr
   have h4lrr' := of_decide_eq_false h4lrr
   have h4r := or_fr h4
   have h4r' := of_decide_eq_false h4r
   refine AWp.skip ?_
   refine AWp.seq ?_
   refine AWp.hz [.run 2] 34 [(1, .ptr 0 0), (22, vb d.sleepy)] [(numbersM_c1 d)] 1 ?_
   refine AWp.cnd (d.sleepy) (fun h5 => ?_) (fun h5 => ?_)
   ·
    refine AWp.join (Z 34 [(2, vb (decide (d.poll ≥ 4) && decide (d.poll ≤ 3600)))] [] 1) ?_ ?_
    ·
     refine AWp.region ?_
     refine AOps.hg [.run 4] (decide (d.poll ≥ 4)) 34 (fun b_ => [(1, .ptr 0 0), (26, vb b_)]) [(numbersM_c1 d)] 1 (fun hg6 => ?_) (fun hg6 => ?_)
     ·
      have hg6' := of_decide_eq_true hg6
      refine AOps.he [.run 5] 34 [(2, vb (decide (d.poll ≤ 3600)))] [] 1 ?_
      exact leZ (by rw [hg6]; try kernel_rfl)
     ·
      have hg6' := of_decide_eq_false hg6
      refine AOps.he [.run 5] 34 [(2, vb false)] [] 1 ?_
      exact leZ (by rw [hg6]; try kernel_rfl)
    ·
     refine AWp.ret ?_
     exact leafR (r := vb (decide (d.poll ≥ 4) && decide (d.poll ≤ 3600))) (by unfold numbersM; (try rw [h4]); (try rw [h5]); try kernel_rfl)
   ·
    refine AWp.skip ?_
    refine AWp.hz [.run 4] 34 [(2, vb (d.poll == 0))] [] 1 ?_
    refine AWp.ret ?_
    exact leafR (r := vb (d.poll == 0)) (by unfold numbersM; (try rw [h4]); (try rw [h5]); try kernel_rfl)
def hasItemsM (n : Int) : Bool :=
 ((n == 1) || (n == 3))
theorem hasItemsM_ok (n : Int) :
 ACalls Try.prog G_ 68 [vi n] [] 0 (fun r τ => r = vb (hasItemsM n) ∧ τ = []) := by
 refine ACalls.body Try.func68 rfl 9 [(0, vi n)] ?_
 refine AWp.hz [.run 1] 9 [(0, vi n)] [] 0 ?_
 refine AWp.join (Z 9 [(2, vb ((n == 1) || (n == 3)))] [] 0) ?_ ?_
 ·
  refine AWp.region ?_
  refine AOps.hg [.run 3] ((n == 1)) 9 (fun b_ => [(0, vi n), (5, vb b_)]) [] 0 (fun hg1 => ?_) (fun hg1 => ?_)
  ·
   refine AOps.he [.run 4] 9 [(2, vb true)] [] 0 ?_
   exact leZ (by rw [hg1]; try kernel_rfl)
  ·
   refine AOps.he [.run 4] 9 [(2, vb (n == 3))] [] 0 ?_
   exact leZ (by rw [hg1]; try kernel_rfl)
 ·
  refine AWp.ret ?_
  exact leafR (r := vb ((n == 1) || (n == 3))) (by unfold hasItemsM; try kernel_rfl)
def hasEpochM (n : Int) : Bool :=
 (n != 7)
theorem hasEpochM_ok (n : Int) :
 ACalls Try.prog G_ 69 [vi n] [] 0 (fun r τ => r = vb (hasEpochM n) ∧ τ = []) := by
 refine ACalls.body Try.func69 rfl 5 [(0, vi n)] ?_
 refine AWp.hz [.run 1] 5 [(0, vi n)] [] 0 ?_
 refine AWp.hz [.run 3] 5 [(2, vb (n != 7))] [] 0 ?_
 refine AWp.ret ?_
 exact leafR (r := vb (n != 7)) (by unfold hasEpochM; try kernel_rfl)
def hasNamesM (n : Int) : Bool :=
 (n == 5)
theorem hasNamesM_ok (n : Int) :
 ACalls Try.prog G_ 25 [vi n] [] 0 (fun r τ => r = vb (hasNamesM n) ∧ τ = []) := by
 refine ACalls.body Try.func25 rfl 5 [(0, vi n)] ?_
 refine AWp.hz [.run 1] 5 [(0, vi n)] [] 0 ?_
 refine AWp.hz [.run 3] 5 [(2, vb (n == 5))] [] 0 ?_
 refine AWp.ret ?_
 exact leafR (r := vb (n == 5)) (by unfold hasNamesM; try kernel_rfl)
def hasDataM (n : Int) : Bool :=
 ((n == 6) || (n == 7))
theorem hasDataM_ok (n : Int) :
 ACalls Try.prog G_ 70 [vi n] [] 0 (fun r τ => r = vb (hasDataM n) ∧ τ = []) := by
 refine ACalls.body Try.func70 rfl 9 [(0, vi n)] ?_
 refine AWp.hz [.run 1] 9 [(0, vi n)] [] 0 ?_
 refine AWp.join (Z 9 [(2, vb ((n == 6) || (n == 7)))] [] 0) ?_ ?_
 ·
  refine AWp.region ?_
  refine AOps.hg [.run 3] ((n == 6)) 9 (fun b_ => [(0, vi n), (5, vb b_)]) [] 0 (fun hg1 => ?_) (fun hg1 => ?_)
  ·
   refine AOps.he [.run 4] 9 [(2, vb true)] [] 0 ?_
   exact leZ (by rw [hg1]; try kernel_rfl)
  ·
   refine AOps.he [.run 4] 9 [(2, vb (n == 7))] [] 0 ?_
   exact leZ (by rw [hg1]; try kernel_rfl)
 ·
  refine AWp.ret ?_
  exact leafR (r := vb ((n == 6) || (n == 7))) (by unfold hasDataM; try kernel_rfl)
def countedM (n : Int) : Bool :=
 (decide (n ≥ 0) && decide (n ≤ 1099511627776))
theorem countedM_ok (n : Int) :
 ACalls Try.prog G_ 21 [vi n] [] 0 (fun r τ => r = vb (countedM n) ∧ τ = []) := by
 refine ACalls.body Try.func21 rfl 9 [(0, vi n)] ?_
 refine AWp.hz [.run 1] 9 [(0, vi n)] [] 0 ?_
 refine AWp.join (Z 9 [(2, vb (decide (n ≥ 0) && decide (n ≤ 1099511627776)))] [] 0) ?_ ?_
 ·
  refine AWp.region ?_
  refine AOps.hg [.run 3] (decide (n ≥ 0)) 9 (fun b_ => [(0, vi n), (5, vb b_)]) [] 0 (fun hg1 => ?_) (fun hg1 => ?_)
  ·
   have hg1' := of_decide_eq_true hg1
   refine AOps.he [.run 4] 9 [(2, vb (decide (n ≤ 1099511627776)))] [] 0 ?_
   exact leZ (by rw [hg1]; try kernel_rfl)
  ·
   have hg1' := of_decide_eq_false hg1
   refine AOps.he [.run 4] 9 [(2, vb false)] [] 0 ?_
   exact leZ (by rw [hg1]; try kernel_rfl)
 ·
  refine AWp.ret ?_
  exact leafR (r := vb (decide (n ≥ 0) && decide (n ≤ 1099511627776))) (by unfold countedM; try kernel_rfl)
def rhasItemsM (n : Int) : Bool :=
 ((n == 1) || (n == 3))
theorem rhasItemsM_ok (n : Int) :
 ACalls Try.prog G_ 41 [vi n] [] 0 (fun r τ => r = vb (rhasItemsM n) ∧ τ = []) := by
 refine ACalls.body Try.func41 rfl 9 [(0, vi n)] ?_
 refine AWp.hz [.run 1] 9 [(0, vi n)] [] 0 ?_
 refine AWp.join (Z 9 [(2, vb ((n == 1) || (n == 3)))] [] 0) ?_ ?_
 ·
  refine AWp.region ?_
  refine AOps.hg [.run 3] ((n == 1)) 9 (fun b_ => [(0, vi n), (5, vb b_)]) [] 0 (fun hg1 => ?_) (fun hg1 => ?_)
  ·
   refine AOps.he [.run 4] 9 [(2, vb true)] [] 0 ?_
   exact leZ (by rw [hg1]; try kernel_rfl)
  ·
   refine AOps.he [.run 4] 9 [(2, vb (n == 3))] [] 0 ?_
   exact leZ (by rw [hg1]; try kernel_rfl)
 ·
  refine AWp.ret ?_
  exact leafR (r := vb ((n == 1) || (n == 3))) (by unfold rhasItemsM; try kernel_rfl)
def rhasEpochM (n : Int) : Bool :=
 (n != 7)
theorem rhasEpochM_ok (n : Int) :
 ACalls Try.prog G_ 40 [vi n] [] 0 (fun r τ => r = vb (rhasEpochM n) ∧ τ = []) := by
 refine ACalls.body Try.func40 rfl 5 [(0, vi n)] ?_
 refine AWp.hz [.run 1] 5 [(0, vi n)] [] 0 ?_
 refine AWp.hz [.run 3] 5 [(2, vb (n != 7))] [] 0 ?_
 refine AWp.ret ?_
 exact leafR (r := vb (n != 7)) (by unfold rhasEpochM; try kernel_rfl)
def rhasDataM (n : Int) : Bool :=
 ((n == 6) || (n == 7))
theorem rhasDataM_ok (n : Int) :
 ACalls Try.prog G_ 44 [vi n] [] 0 (fun r τ => r = vb (rhasDataM n) ∧ τ = []) := by
 refine ACalls.body Try.func44 rfl 9 [(0, vi n)] ?_
 refine AWp.hz [.run 1] 9 [(0, vi n)] [] 0 ?_
 refine AWp.join (Z 9 [(2, vb ((n == 6) || (n == 7)))] [] 0) ?_ ?_
 ·
  refine AWp.region ?_
  refine AOps.hg [.run 3] ((n == 6)) 9 (fun b_ => [(0, vi n), (5, vb b_)]) [] 0 (fun hg1 => ?_) (fun hg1 => ?_)
  ·
   refine AOps.he [.run 4] 9 [(2, vb true)] [] 0 ?_
   exact leZ (by rw [hg1]; try kernel_rfl)
  ·
   refine AOps.he [.run 4] 9 [(2, vb (n == 7))] [] 0 ?_
   exact leZ (by rw [hg1]; try kernel_rfl)
 ·
  refine AWp.ret ?_
  exact leafR (r := vb ((n == 6) || (n == 7))) (by unfold rhasDataM; try kernel_rfl)
def rtickM (n : Int) : Bool :=
 (decide (n ≥ 0) && decide (n ≤ 1099511627776))
theorem rtickM_ok (n : Int) :
 ACalls Try.prog G_ 27 [vi n] [] 0 (fun r τ => r = vb (rtickM n) ∧ τ = []) := by
 refine ACalls.body Try.func27 rfl 9 [(0, vi n)] ?_
 refine AWp.hz [.run 1] 9 [(0, vi n)] [] 0 ?_
 refine AWp.join (Z 9 [(2, vb (decide (n ≥ 0) && decide (n ≤ 1099511627776)))] [] 0) ?_ ?_
 ·
  refine AWp.region ?_
  refine AOps.hg [.run 3] (decide (n ≥ 0)) 9 (fun b_ => [(0, vi n), (5, vb b_)]) [] 0 (fun hg1 => ?_) (fun hg1 => ?_)
  ·
   have hg1' := of_decide_eq_true hg1
   refine AOps.he [.run 4] 9 [(2, vb (decide (n ≤ 1099511627776)))] [] 0 ?_
   exact leZ (by rw [hg1]; try kernel_rfl)
  ·
   have hg1' := of_decide_eq_false hg1
   refine AOps.he [.run 4] 9 [(2, vb false)] [] 0 ?_
   exact leZ (by rw [hg1]; try kernel_rfl)
 ·
  refine AWp.ret ?_
  exact leafR (r := vb (decide (n ≥ 0) && decide (n ≤ 1099511627776))) (by unfold rtickM; try kernel_rfl)
def wintM_B1 (n : Int) (x_ : Int × (List Int)) : Step Unit (Int × (List Int)) :=
 match x_ with
 | (a1_0, a1_1) => (bif decide (a1_0 ≥ 128) then .nxt (a1_0.fdiv 128, (a1_1 ++ [orI .u8 (IntKind.u8.wrap a1_0) 128])) else .brk (a1_0, a1_1))
def wintM_L1 (n : Int) (x_ : Int × (List Int)) : Int × (List Int) := loopV (wintM_B1 n) 10 x_
def wintM (n : Int) : ByteArray :=
 bytesOf ((wintM_L1 n (xorI .u64 (IntKind.u64.wrap (IntKind.u64.wrap n * 2)) (IntKind.u64.wrap (n.fdiv 9223372036854775808)), [])).2 ++ [IntKind.u8.wrap ((wintM_L1 n (xorI .u64 (IntKind.u64.wrap (IntKind.u64.wrap n * 2)) (IntKind.u64.wrap (n.fdiv 9223372036854775808)), [])).1)])
theorem u64_lt (n : Int) : 0 ≤ IntKind.u64.wrap n ∧ IntKind.u64.wrap n < 18446744073709551616 := by
 rw [show IntKind.u64.wrap n = n % 18446744073709551616 by simp [IntKind.wrap, IntKind.bits, IntKind.signed]]
 omega
theorem pow_step {u : Int} {n : Nat} (h : u < 128 * 128 ^ (n + 1)) : u / 128 < 128 * 128 ^ n := by
 rw [Int.pow_succ] at h
 generalize (128 : Int) ^ n = p at *
 omega
theorem wintM_ends_aux (n : Int) : ∀ (k : Nat) (u : Int) (b : List Int), 0 ≤ u → u < 128 * 128 ^ k → endsW (wintM_B1 n) (k + 1) (u, b)
 | k, u, b, h0, h => by
  unfold endsW
  cases hb : wintM_B1 n (u, b) with
  | ret _ => trivial
  | brk _ => trivial
  | nxt a =>
   unfold wintM_B1 at hb
   simp only [cond_eq_ite, decide_eq_true_eq] at hb
   split at hb
   ·rename_i hu
    cases hb
    cases k with
    | zero =>
     have h : u < 128 := by simpa using h
     omega
    | succ k =>
     rw [Int.fdiv_eq_ediv_of_nonneg u (by omega)]
     exact wintM_ends_aux n k _ _ (by omega) (pow_step h)
   ·cases hb
theorem wintM_ends (n u : Int) (h : 0 ≤ u ∧ u < 18446744073709551616) : endsW (wintM_B1 n) 10 (u, []) := wintM_ends_aux n 9 _ _ h.1 (Int.lt_of_lt_of_le h.2 (by decide))
theorem xor_lt (x y : Int) : 0 ≤ xorI .u64 x y ∧ xorI .u64 x y < 18446744073709551616 := u64_lt _
theorem wintM_ok (n : Int) :
 ACalls Try.prog G_ 32 [vi n] [] 0 (fun r τ => r = vs (wintM n) ∧ τ = []) := by
 refine ACalls.body Try.func32 rfl 28 [(0, vi n)] ?_
 refine AWp.hz [.run 1] 28 [(0, vi n)] [] 0 ?_
 refine AWp.rg ?_
 refine AOps.hz [.run 6] 28 [(7, .rv (.v (.int .u64 (IntKind.u64.wrap (IntKind.u64.wrap n * 2))))), (10, .rv (.v (.int .u64 (IntKind.u64.wrap (n.fdiv 9223372036854775808)))))] [] 0 ?_
 refine AOps.xorI .u64 (IntKind.u64.wrap (IntKind.u64.wrap n * 2)) (IntKind.u64.wrap (n.fdiv 9223372036854775808)) (.tmp 7) (.tmp 10) ?_
 refine AOps.he [.run 1] 28 [(3, .rv (.v (.int .u64 (xorI .u64 (IntKind.u64.wrap (IntKind.u64.wrap n * 2)) (IntKind.u64.wrap (n.fdiv 9223372036854775808))))))] [] 0 ?_
 refine AWp.hz [.run 1] 28 [(3, .rv (.v (.int .u64 (xorI .u64 (IntKind.u64.wrap (IntKind.u64.wrap n * 2)) (IntKind.u64.wrap (n.fdiv 9223372036854775808)))))), (4, .rv (.v (.slice none 0 0)))] [] 0 ?_
 refine AWp.nrow 4 5 1 ?_
 refine AWp.joinE (A := Int × (List Int)) (fun x_ => Z 28 [(3, .rv (.v (.int .u64 x_.1))), (4, .sl 0)] [(0, .row false 5 1 (x_.2.map u8C))] 1) (fun x_ => x_ = (wintM_L1 n (xorI .u64 (IntKind.u64.wrap (IntKind.u64.wrap n * 2)) (IntKind.u64.wrap (n.fdiv 9223372036854775808)), [])) ∧ x_.2.length ≤ 10) ?_ ?_
 ·
  refine AWp.block ?_
  refine AWp.loop (ι := Nat × (Int × (List Int))) (fun x_ => Z 28 [(3, .rv (.v (.int .u64 x_.2.1))), (4, .sl 0)] [(0, .row false 5 1 (x_.2.2.map u8C))] 1) (fun x_ => (loopW (wintM_B1 n) 10 (xorI .u64 (IntKind.u64.wrap (IntKind.u64.wrap n * 2)) (IntKind.u64.wrap (n.fdiv 9223372036854775808)), []) = loopW (wintM_B1 n) x_.1 x_.2 ∧ endsW (wintM_B1 n) x_.1 x_.2) ∧ x_.2.2.length + x_.1 = 10) (fun x_ => x_.1) (10, (xorI .u64 (IntKind.u64.wrap (IntKind.u64.wrap n * 2)) (IntKind.u64.wrap (n.fdiv 9223372036854775808)), [])) leZ ⟨⟨rfl, wintM_ends n _ (xor_lt _ _)⟩, rfl⟩ ?_
  rintro ⟨n1_, ⟨a1_0, a1_1⟩⟩ ⟨hs1_, hv1_⟩
  try dsimp only at hv1_
  try dsimp only at hs1_
  refine AWp.cv 28 [(3, .rv (.v (.int .u64 a1_0))), (4, .sl 0)] [(0, .row false 5 1 (a1_1.map u8C))] 1 ?_
  refine AWp.seq ?_
  refine AWp.hz [.run 2] 28 [(3, .rv (.v (.int .u64 a1_0))), (4, .sl 0), (13, vb (decide (a1_0 ≥ 128)))] [(0, .row false 5 1 (a1_1.map u8C))] 1 ?_
  refine AWp.cnd (decide (a1_0 ≥ 128)) (fun h1 => ?_) (fun h1 => ?_)
  ·
   have h1' := of_decide_eq_true h1
   refine AWp.skip ?_
   refine AWp.block ?_
   refine AWp.rg ?_
   refine AOps.hz [.run 3] 28 [(3, .rv (.v (.int .u64 a1_0))), (14, .sl 0), (16, .rv (.v (.int .u8 (IntKind.u8.wrap a1_0))))] [(0, .row false 5 1 (a1_1.map u8C))] 1 ?_
   refine AOps.orI .u8 (IntKind.u8.wrap a1_0) 128 (.tmp 16) (.const (.int .u8 128)) ?_
   refine AOps.he [.lit 5 1 (List.map u8C [orI .u8 (IntKind.u8.wrap a1_0) 128]), .app u8C a1_1 ([orI .u8 (IntKind.u8.wrap a1_0) 128]) 0 5 1 1 (apSz (by simp; omega)), .run 1] 28 [(3, .rv (.v (.int .u64 a1_0))), (4, .sl 0)] [(0, .row false 5 1 ((a1_1 ++ [orI .u8 (IntKind.u8.wrap a1_0) 128]).map u8C))] 1 ?_
   refine AWp.he [.run 3] 28 [(3, .rv (.v (.int .u64 (a1_0.fdiv 128)))), (4, .sl 0)] [(0, .row false 5 1 ((a1_1 ++ [orI .u8 (IntKind.u8.wrap a1_0) 128]).map u8C))] 1 ?_
   obtain ⟨m1_, rfl, hm1_⟩ := loopW_next (a' := (a1_0.fdiv 128, (a1_1 ++ [orI .u8 (IntKind.u8.wrap a1_0) 128]))) hs1_ (by unfold wintM_B1; (try dsimp only); (try rw [h1]); try kernel_rfl)
   exact ⟨(m1_, (a1_0.fdiv 128, (a1_1 ++ [orI .u8 (IntKind.u8.wrap a1_0) 128]))), ⟨hm1_, by simp only [List.length_append, List.length_cons, List.length_nil]; omega⟩, Nat.lt_succ_self _, leG⟩
  ·
   have h1' := of_decide_eq_false h1
   refine AWp.exit ?_
   have hq1_ := loopW_brk (a' := (a1_0, a1_1)) hs1_ (by unfold wintM_B1; (try dsimp only); (try rw [h1]); try kernel_rfl)
   exact ⟨(a1_0, a1_1), ⟨loopV_of hq1_, by dsimp only; omega⟩, leG⟩
 ·
  rintro _ ⟨rfl, hp1_⟩
  try dsimp only at hp1_
  refine AWp.rg ?_
  refine AOps.hz [.run 3, .lit 5 1 (List.map u8C [IntKind.u8.wrap ((wintM_L1 n (xorI .u64 (IntKind.u64.wrap (IntKind.u64.wrap n * 2)) (IntKind.u64.wrap (n.fdiv 9223372036854775808)), [])).1)]), .app u8C ((wintM_L1 n (xorI .u64 (IntKind.u64.wrap (IntKind.u64.wrap n * 2)) (IntKind.u64.wrap (n.fdiv 9223372036854775808)), [])).2) ([IntKind.u8.wrap ((wintM_L1 n (xorI .u64 (IntKind.u64.wrap (IntKind.u64.wrap n * 2)) (IntKind.u64.wrap (n.fdiv 9223372036854775808)), [])).1)]) 0 5 1 1 (apSz (by simp; omega))] 28 [(26, .sl 0)] [(0, .row false 5 1 (((wintM_L1 n (xorI .u64 (IntKind.u64.wrap (IntKind.u64.wrap n * 2)) (IntKind.u64.wrap (n.fdiv 9223372036854775808)), [])).2 ++ [IntKind.u8.wrap ((wintM_L1 n (xorI .u64 (IntKind.u64.wrap (IntKind.u64.wrap n * 2)) (IntKind.u64.wrap (n.fdiv 9223372036854775808)), [])).1)]).map u8C))] 1 ?_
  refine AOps.str ((wintM_L1 n (xorI .u64 (IntKind.u64.wrap (IntKind.u64.wrap n * 2)) (IntKind.u64.wrap (n.fdiv 9223372036854775808)), [])).2 ++ [IntKind.u8.wrap ((wintM_L1 n (xorI .u64 (IntKind.u64.wrap (IntKind.u64.wrap n * 2)) (IntKind.u64.wrap (n.fdiv 9223372036854775808)), [])).1)]) (.tmp 26) ?_
  refine AOps.he [.run 1] 28 [(2, vs (bytesOf ((wintM_L1 n (xorI .u64 (IntKind.u64.wrap (IntKind.u64.wrap n * 2)) (IntKind.u64.wrap (n.fdiv 9223372036854775808)), [])).2 ++ [IntKind.u8.wrap ((wintM_L1 n (xorI .u64 (IntKind.u64.wrap (IntKind.u64.wrap n * 2)) (IntKind.u64.wrap (n.fdiv 9223372036854775808)), [])).1)])))] [] 1 ?_
  refine AWp.ret ?_
  exact leafR (r := vs (bytesOf ((wintM_L1 n (xorI .u64 (IntKind.u64.wrap (IntKind.u64.wrap n * 2)) (IntKind.u64.wrap (n.fdiv 9223372036854775808)), [])).2 ++ [IntKind.u8.wrap ((wintM_L1 n (xorI .u64 (IntKind.u64.wrap (IntKind.u64.wrap n * 2)) (IntKind.u64.wrap (n.fdiv 9223372036854775808)), [])).1)]))) (by unfold wintM; try kernel_rfl)
end Go.Proofs.Ytnnlaccdendkpaa
