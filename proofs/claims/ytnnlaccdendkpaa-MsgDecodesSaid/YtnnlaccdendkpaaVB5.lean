/- Messages: the fields written and read. -/
import Derived.Test.YtnnlaccdendkpaaVB3
import Derived.Test.YtnnlaccdendkpaaVB4
namespace Go.Proofs.Ytnnlaccdendkpaa
open Go Go.Av Go.Hh Go.Proofs
set_option maxRecDepth 100000
set_option maxHeartbeats 4000000
def encNumM (b : ByteArray) (n : Int) : (Int × ByteArray) :=
 (n, (b ++ (wintM n)))
theorem encNumM_ok (b : ByteArray) (n : Int) (hb : b.size ≤ 1000000000000) :
 ACalls Try.prog G_ 33 [vi n, .ptr 0 0] (number 0 [.box 9 [vs b]]) 1 (fun r_ τ_ => r_ = vi ((encNumM b n).1) ∧ τ_ = number 0 [.box 9 [vs ((encNumM b n).2)]]) := by
 refine ACalls.bodyH Try.func33 rfl 2009 [(0, vi n), (1, .ptr 0 0)] ?_
 refine AWp.hz [.run 1] 2009 [(0, vi n), (1, .ptr 0 0)] [(0, .box 9 [vs b])] 1 ?_
 refine AWp.seq ?_
 refine AWp.cut (fuel := 0) (m := [true, true, true, true, true]) (s := Z 2009 [(0, vi n)] [(0, .box 9 [vs (b ++ (wintM n))])] 1) (AD.done ?_) (fun hd4 => ?_)
 ·
  refine AWp.hz [.run 2] 2009 [(3, vi n)] [(0, .box 9 [vs (b ++ (wintM n))])] 1 ?_
  refine AWp.ret ?_
  exact leafH (.inr rfl) (r := vi n) (τ := [(0, .box 9 [vs (b ++ (wintM n))])]) (by show (vi n : AV) = vi ((encNumM b n).1); unfold encNumM; try kernel_rfl) (by show ([(0, .box 9 [vs (b ++ (wintM n))])] : Heap) = number 0 [.box 9 [vs ((encNumM b n).2)]]; unfold encNumM; try kernel_rfl)
 refine AWp.cut (fuel := 1) (m := [true, true, true, true, false]) (s := Z 2009 [(0, vi n), (1, .ptr 0 0), (7, vs (b ++ (wintM n)))] [(0, .box 9 [vs b])] 1) (AD.step 4 [] (ADs.cons _ rfl (AOps.he [.run 1] _ _ _ _ ⟨rfl, rfl⟩) hd4 (ADs.nil))) (fun hd5 => ?_)
 refine AWp.cut (fuel := 2) (m := [true, true, true, false, false]) (s := Z 2009 [(0, vi n), (1, .ptr 0 0), (4, vs b), (6, vs (wintM n))] [(0, .box 9 [vs b])] 1) (AD.step 3 [] (ADs.cons _ rfl ?_ hd5 (ADs.nil))) (fun hd6 => ?_)
 ·
  have hc3 : b.size + (wintM n).size ≤ 9223372036854775807 := by exact cat_le hb (wintM_size _) (by omega)
  refine AOps.cat b (wintM n) (.tmp 4) (.tmp 6) hc3 ?_
  refine AOps.cv 2009 [(0, vi n), (1, .ptr 0 0), (7, vs (b ++ (wintM n)))] [(0, .box 9 [vs b])] 1 ?_
  exact AOps.nil ⟨rfl, rfl⟩
 refine AWp.cut (fuel := 3) (m := [true, true, false, false, false]) (s := Z 2009 [(0, vi n), (1, .ptr 0 0), (4, vs b), (5, vi n)] [(0, .box 9 [vs b])] 1) (AD.step 2 [] (ADs.cons _ rfl (AOps.he [.call 32 [vi n] (vs (wintM n)) [] 0 (wintM_ok n)] _ _ _ _ ⟨rfl, rfl⟩) hd6 (ADs.nil))) (fun hd7 => ?_)
 refine AWp.cut (fuel := 3) (m := [false, true, true, false, false]) (s := Z 2009 [(0, vi n), (1, .ptr 0 0), (6, vs (wintM n))] [(0, .box 9 [vs b])] 1) (AD.step 0 [] (ADs.cons _ rfl (AOps.he [.run 1] _ _ _ _ ⟨rfl, rfl⟩) hd6 (ADs.nil))) (fun hd8 => ?_)
 refine AWp.cut (fuel := 4) (m := [false, true, false, false, false]) (s := Z 2009 [(0, vi n), (1, .ptr 0 0), (5, vi n)] [(0, .box 9 [vs b])] 1) (AD.step 0 [2] (ADs.cons _ rfl (AOps.he [.run 1] _ _ _ _ ⟨rfl, rfl⟩) hd7 (ADs.cons _ rfl (AOps.he [.call 32 [vi n] (vs (wintM n)) [] 0 (wintM_ok n)] _ _ _ _ ⟨rfl, rfl⟩) hd8 (ADs.nil)))) (fun hd9 => ?_)
 refine AWp.cut (fuel := 5) (m := [false, false, false, false, false]) (s := Z 2009 [(0, vi n), (1, .ptr 0 0)] [(0, .box 9 [vs b])] 1) (AD.tk 1 _ _ _ _ hd9) (fun hd10 => ?_)
 exact AWp.drawnA 5 leZ hd10
theorem encNumM_fst (b : ByteArray) (n : Int) : (encNumM b n).1 = n := rfl
theorem encNumM_size (b : ByteArray) (n : Int) : (encNumM b n).2.size ≤ b.size + 11 := by
 have := wintM_size n
 unfold encNumM
 dsimp only
 rw [ByteArray.size_append]
 omega
def encTextM (b : ByteArray) (s : ByteArray) (n : Int) : (ByteArray × ByteArray) :=
 (s, (b ++ (wtextM s)))
theorem encTextM_ok (b : ByteArray) (s : ByteArray) (n : Int) (hb : b.size ≤ 1000000000000) (hs : s.size ≤ 1000000) :
 ACalls Try.prog G_ 34 [vs s, vi n, .ptr 0 0] (number 0 [.box 9 [vs b]]) 1 (fun r_ τ_ => r_ = vs ((encTextM b s n).1) ∧ τ_ = number 0 [.box 9 [vs ((encTextM b s n).2)]]) := by
 refine ACalls.bodyH Try.func34 rfl 2011 [(0, vs s), (1, vi n), (2, .ptr 0 0)] ?_
 refine AWp.hz [.run 1] 2011 [(0, vs s), (2, .ptr 0 0)] [(0, .box 9 [vs b])] 1 ?_
 refine AWp.seq ?_
 refine AWp.cut (fuel := 0) (m := [true, true, true, true, true]) (s := Z 2011 [(0, vs s)] [(0, .box 9 [vs (b ++ (wtextM s))])] 1) (AD.done ?_) (fun hd4 => ?_)
 ·
  refine AWp.hz [.run 2] 2011 [(5, vs s)] [(0, .box 9 [vs (b ++ (wtextM s))])] 1 ?_
  refine AWp.ret ?_
  exact leafH (.inr rfl) (r := vs s) (τ := [(0, .box 9 [vs (b ++ (wtextM s))])]) (by show (vs s : AV) = vs ((encTextM b s n).1); unfold encTextM; try kernel_rfl) (by show ([(0, .box 9 [vs (b ++ (wtextM s))])] : Heap) = number 0 [.box 9 [vs ((encTextM b s n).2)]]; unfold encTextM; try kernel_rfl)
 refine AWp.cut (fuel := 1) (m := [true, true, true, true, false]) (s := Z 2011 [(0, vs s), (2, .ptr 0 0), (9, vs (b ++ (wtextM s)))] [(0, .box 9 [vs b])] 1) (AD.step 4 [] (ADs.cons _ rfl (AOps.he [.run 1] _ _ _ _ ⟨rfl, rfl⟩) hd4 (ADs.nil))) (fun hd5 => ?_)
 refine AWp.cut (fuel := 2) (m := [true, true, true, false, false]) (s := Z 2011 [(0, vs s), (2, .ptr 0 0), (6, vs b), (8, vs (wtextM s))] [(0, .box 9 [vs b])] 1) (AD.step 3 [] (ADs.cons _ rfl ?_ hd5 (ADs.nil))) (fun hd6 => ?_)
 ·
  have hc3 : b.size + (wtextM s).size ≤ 9223372036854775807 := by exact cat_le hb (wtextM_size _) (by omega)
  refine AOps.cat b (wtextM s) (.tmp 6) (.tmp 8) hc3 ?_
  refine AOps.cv 2011 [(0, vs s), (2, .ptr 0 0), (9, vs (b ++ (wtextM s)))] [(0, .box 9 [vs b])] 1 ?_
  exact AOps.nil ⟨rfl, rfl⟩
 refine AWp.cut (fuel := 3) (m := [true, true, false, false, false]) (s := Z 2011 [(0, vs s), (2, .ptr 0 0), (6, vs b), (7, vs s)] [(0, .box 9 [vs b])] 1) (AD.step 2 [] (ADs.cons _ rfl (AOps.he [.call 35 [vs s] (vs (wtextM s)) [] 0 (wtextM_ok s (by first | assumption | omega))] _ _ _ _ ⟨rfl, rfl⟩) hd6 (ADs.nil))) (fun hd7 => ?_)
 refine AWp.cut (fuel := 3) (m := [false, true, true, false, false]) (s := Z 2011 [(0, vs s), (2, .ptr 0 0), (8, vs (wtextM s))] [(0, .box 9 [vs b])] 1) (AD.step 0 [] (ADs.cons _ rfl (AOps.he [.run 1] _ _ _ _ ⟨rfl, rfl⟩) hd6 (ADs.nil))) (fun hd8 => ?_)
 refine AWp.cut (fuel := 4) (m := [false, true, false, false, false]) (s := Z 2011 [(0, vs s), (2, .ptr 0 0), (7, vs s)] [(0, .box 9 [vs b])] 1) (AD.step 0 [2] (ADs.cons _ rfl (AOps.he [.run 1] _ _ _ _ ⟨rfl, rfl⟩) hd7 (ADs.cons _ rfl (AOps.he [.call 35 [vs s] (vs (wtextM s)) [] 0 (wtextM_ok s (by first | assumption | omega))] _ _ _ _ ⟨rfl, rfl⟩) hd8 (ADs.nil)))) (fun hd9 => ?_)
 refine AWp.cut (fuel := 5) (m := [false, false, false, false, false]) (s := Z 2011 [(0, vs s), (2, .ptr 0 0)] [(0, .box 9 [vs b])] 1) (AD.tk 1 _ _ _ _ hd9) (fun hd10 => ?_)
 exact AWp.drawnA 5 leZ hd10
theorem encTextM_size (b s : ByteArray) (n : Int) : (encTextM b s n).2.size ≤ b.size + (11 + s.size) := by
 have := wtextM_size s
 unfold encTextM
 dsimp only
 rw [ByteArray.size_append]
 omega
def encValM (b : ByteArray) (v : Val) : (Val × ByteArray) :=
 (v, (b ++ (putM v)))
abbrev encValM_c1 : Nat × AObj := (2, .box 53 [vi 0, vi 0, vs (⟨#[]⟩)])
abbrev encValM_c2 (v : Val) : Nat × AObj := (1, .box 53 (avs (Val.cells v)))
theorem encValM_ok (b : ByteArray) (v : Val) (hb : b.size ≤ 1000000000000) (hs : v.s.size ≤ 1000000) :
 ACalls Try.prog G_ 36 [.agg (avs (Val.cells v)), .ptr 0 0] (number 0 [.box 9 [vs b]]) 1 (fun r_ τ_ => r_ = .agg (avs (Val.cells ((encValM b v).1))) ∧ τ_ = number 0 [.box 9 [vs ((encValM b v).2)]]) := by
 refine ACalls.bodyH Try.func36 rfl 2009 [(0, .agg (avs (Val.cells v))), (1, .ptr 0 0)] ?_
 refine AWp.hz [.run 2] 2009 [(1, .ptr 0 0), (2, .ptr 1 0), (3, .ptr 2 0)] [encValM_c1, (encValM_c2 v), (0, .box 9 [vs b])] 3 ?_
 refine AWp.seq ?_
 refine AWp.cut (fuel := 0) (m := [true, true, true, true, true]) (s := Z 2009 [(2, .ptr 1 0), (3, .ptr 2 0)] [(0, .box 9 [vs (b ++ (putM v))]), (encValM_c2 v), encValM_c1] 3) (AD.done ?_) (fun hd4 => ?_)
 ·
  refine AWp.hz [.run 2] 2009 [(3, .ptr 2 0)] [(0, .box 9 [vs (b ++ (putM v))]), (2, .box 53 (avs (Val.cells v)))] 3 ?_
  refine AWp.ret ?_
  exact leafH (.inr rfl) (r := .agg (avs (Val.cells v))) (τ := [(0, .box 9 [vs (b ++ (putM v))])]) (by show (.agg (avs (Val.cells v)) : AV) = .agg (avs (Val.cells ((encValM b v).1))); unfold encValM; try kernel_rfl) (by show ([(0, .box 9 [vs (b ++ (putM v))])] : Heap) = number 0 [.box 9 [vs ((encValM b v).2)]]; unfold encValM; try kernel_rfl)
 refine AWp.cut (fuel := 1) (m := [true, true, true, true, false]) (s := Z 2009 [(1, .ptr 0 0), (2, .ptr 1 0), (3, .ptr 2 0), (7, vs (b ++ (putM v)))] [(0, .box 9 [vs b]), (encValM_c2 v), encValM_c1] 3) (AD.step 4 [] (ADs.cons _ rfl (AOps.he [.run 1] _ _ _ _ ⟨rfl, rfl⟩) hd4 (ADs.nil))) (fun hd5 => ?_)
 refine AWp.cut (fuel := 2) (m := [true, true, true, false, false]) (s := Z 2009 [(1, .ptr 0 0), (2, .ptr 1 0), (3, .ptr 2 0), (4, vs b), (6, vs (putM v))] [(0, .box 9 [vs b]), (encValM_c2 v), encValM_c1] 3) (AD.step 3 [] (ADs.cons _ rfl ?_ hd5 (ADs.nil))) (fun hd6 => ?_)
 ·
  have hc3 : b.size + (putM v).size ≤ 9223372036854775807 := by exact cat_le hb (putM_size hs) (by omega)
  refine AOps.cat b (putM v) (.tmp 4) (.tmp 6) hc3 ?_
  refine AOps.cv 2009 [(1, .ptr 0 0), (2, .ptr 1 0), (3, .ptr 2 0), (7, vs (b ++ (putM v)))] [(0, .box 9 [vs b]), (encValM_c2 v), encValM_c1] 3 ?_
  exact AOps.nil ⟨rfl, rfl⟩
 refine AWp.cut (fuel := 3) (m := [true, true, false, false, false]) (s := Z 2009 [(1, .ptr 0 0), (2, .ptr 1 0), (3, .ptr 2 0), (4, vs b), (5, .agg (avs (Val.cells v)))] [(0, .box 9 [vs b]), (encValM_c2 v), encValM_c1] 3) (AD.step 2 [] (ADs.cons _ rfl (AOps.he [.call 37 [.agg (avs (Val.cells v))] (vs (putM v)) [] 0 (putM_ok v (by first | assumption | omega))] _ _ _ _ ⟨rfl, rfl⟩) hd6 (ADs.nil))) (fun hd7 => ?_)
 refine AWp.cut (fuel := 3) (m := [false, true, true, false, false]) (s := Z 2009 [(1, .ptr 0 0), (2, .ptr 1 0), (3, .ptr 2 0), (6, vs (putM v))] [(0, .box 9 [vs b]), (encValM_c2 v), encValM_c1] 3) (AD.step 0 [] (ADs.cons _ rfl (AOps.he [.run 1] _ _ _ _ ⟨rfl, rfl⟩) hd6 (ADs.nil))) (fun hd8 => ?_)
 refine AWp.cut (fuel := 4) (m := [true, false, false, false, false]) (s := Z 2009 [(1, .ptr 0 0), (2, .ptr 1 0), (3, .ptr 2 0), (4, vs b)] [(0, .box 9 [vs b]), (encValM_c2 v), encValM_c1] 3) (AD.step 1 [] (ADs.cons _ rfl (AOps.he [.run 1] _ _ _ _ ⟨rfl, rfl⟩) hd7 (ADs.nil))) (fun hd9 => ?_)
 refine AWp.cut (fuel := 4) (m := [false, true, false, false, false]) (s := Z 2009 [(1, .ptr 0 0), (2, .ptr 1 0), (3, .ptr 2 0), (5, .agg (avs (Val.cells v)))] [(0, .box 9 [vs b]), (encValM_c2 v), encValM_c1] 3) (AD.step 0 [2] (ADs.cons _ rfl (AOps.he [.run 1] _ _ _ _ ⟨rfl, rfl⟩) hd7 (ADs.cons _ rfl (AOps.he [.call 37 [.agg (avs (Val.cells v))] (vs (putM v)) [] 0 (putM_ok v (by first | assumption | omega))] _ _ _ _ ⟨rfl, rfl⟩) hd8 (ADs.nil)))) (fun hd10 => ?_)
 refine AWp.cut (fuel := 5) (m := [false, false, false, false, false]) (s := Z 2009 [(1, .ptr 0 0), (2, .ptr 1 0), (3, .ptr 2 0)] [(0, .box 9 [vs b]), (encValM_c2 v), encValM_c1] 3) (AD.step 0 [1] (ADs.cons _ rfl (AOps.he [.run 1] _ _ _ _ ⟨rfl, rfl⟩) hd9 (ADs.cons _ rfl (AOps.he [.run 1] _ _ _ _ ⟨rfl, rfl⟩) hd10 (ADs.nil)))) (fun hd11 => ?_)
 exact AWp.drawnA 5 leZ hd11
theorem encValM_size (b : ByteArray) (v : Val) (h : v.s.size ≤ 1000000) : (encValM b v).2.size ≤ b.size + 1000022 := by
 have := putM_size h
 unfold encValM
 dsimp only
 rw [ByteArray.size_append]
 omega
def decNumM (r : Rd) (n : Int) : (Int × Rd) :=
 ((rdIntM r).1, ((rdIntM r).2))
theorem decNumM_ok (r : Rd) (n : Int) :
 ACalls Try.prog G_ 48 [vi n, .ptr 0 0] (number 0 [.box 74 [.ptr 1 0], .box 97 (avs (Rd.cells r))]) 2 (fun r_ τ_ => r_ = vi ((decNumM r n).1) ∧ τ_ = number 0 [.box 74 [.ptr 1 0], .box 97 (avs (Rd.cells ((decNumM r n).2)))]) := by
 refine ACalls.bodyH Try.func48 rfl 4006 [(0, vi n), (1, .ptr 0 0)] ?_
 refine AWp.hz [.run 1] 4006 [(1, .ptr 0 0)] [(0, .box 74 [.ptr 1 0]), (1, .box 97 (avs (Rd.cells r)))] 2 ?_
 refine AWp.rg ?_
 refine AOps.hz [.run 1] 4006 [(4, .ptr 1 0)] [(0, .box 74 [.ptr 1 0]), (1, .box 97 (avs (Rd.cells r)))] 2 ?_
 refine AOps.callX 46 [] [] [1] [.box 97 (avs (Rd.cells r))] [.box 97 (avs (Rd.cells ((rdIntM r).2)))] (.func 46) [(.tmp 4)] [.ptr 0 0] (vi ((rdIntM r).1)) (rdIntM_ok r) ?_
 refine AOps.he [.run 1] 4006 [(3, vi ((rdIntM r).1))] [(0, .box 74 [.ptr 1 0]), (1, .box 97 (avs (Rd.cells ((rdIntM r).2))))] 2 ?_
 refine AWp.ret ?_
 exact leafH (.inr rfl) (r := vi ((rdIntM r).1)) (τ := [(0, .box 74 [.ptr 1 0]), (1, .box 97 (avs (Rd.cells ((rdIntM r).2))))]) (by show (vi ((rdIntM r).1) : AV) = vi ((decNumM r n).1); unfold decNumM; try kernel_rfl) (by show ([(0, .box 74 [.ptr 1 0]), (1, .box 97 (avs (Rd.cells ((rdIntM r).2))))] : Heap) = number 0 [.box 74 [.ptr 1 0], .box 97 (avs (Rd.cells ((decNumM r n).2)))]; unfold decNumM; try kernel_rfl)
def decCountM (r : Rd) (n : Int) : (Int × Rd) :=
 ((rdCountM r 7).1, ((rdCountM r 7).2))
theorem decCountM_ok (r : Rd) (n : Int) :
 ACalls Try.prog G_ 49 [vi n, .ptr 0 0] (number 0 [.box 74 [.ptr 1 0], .box 97 (avs (Rd.cells r))]) 2 (fun r_ τ_ => r_ = vi ((decCountM r n).1) ∧ τ_ = number 0 [.box 74 [.ptr 1 0], .box 97 (avs (Rd.cells ((decCountM r n).2)))]) := by
 refine ACalls.bodyH Try.func49 rfl 4006 [(0, vi n), (1, .ptr 0 0)] ?_
 refine AWp.hz [.run 1] 4006 [(1, .ptr 0 0)] [(0, .box 74 [.ptr 1 0]), (1, .box 97 (avs (Rd.cells r)))] 2 ?_
 refine AWp.rg ?_
 refine AOps.hz [.run 1] 4006 [(4, .ptr 1 0)] [(0, .box 74 [.ptr 1 0]), (1, .box 97 (avs (Rd.cells r)))] 2 ?_
 refine AOps.callX 50 [] [] [1] [.box 97 (avs (Rd.cells r))] [.box 97 (avs (Rd.cells ((rdCountM r 7).2)))] (.func 50) [(.tmp 4), (.const (.int .i64 7))] [.ptr 0 0, vi 7] (vi ((rdCountM r 7).1)) (rdCountM_ok r 7) ?_
 refine AOps.he [.run 1] 4006 [(3, vi ((rdCountM r 7).1))] [(0, .box 74 [.ptr 1 0]), (1, .box 97 (avs (Rd.cells ((rdCountM r 7).2))))] 2 ?_
 refine AWp.ret ?_
 exact leafH (.inr rfl) (r := vi ((rdCountM r 7).1)) (τ := [(0, .box 74 [.ptr 1 0]), (1, .box 97 (avs (Rd.cells ((rdCountM r 7).2))))]) (by show (vi ((rdCountM r 7).1) : AV) = vi ((decCountM r n).1); unfold decCountM; try kernel_rfl) (by show ([(0, .box 74 [.ptr 1 0]), (1, .box 97 (avs (Rd.cells ((rdCountM r 7).2))))] : Heap) = number 0 [.box 74 [.ptr 1 0], .box 97 (avs (Rd.cells ((decCountM r n).2)))]; unfold decCountM; try kernel_rfl)
theorem rdCountM_le (r : Rd) (n : Int) (hn : 0 ≤ n) : (rdCountM r n).1 ≤ n := by
 unfold rdCountM
 cases hA : ((rdErrM ((rdIntM r).2)) != 0) with
 | true => exact hn
 | false =>
  simp only [cond_false]
  cases hB : decide ((rdIntM r).1 < 0) with
  | true => exact hn
  | false =>
   simp only [cond_false]
   cases hC : decide ((rdIntM r).1 > (if 0 > n then 0 else n)) with
   | true => exact hn
   | false =>
    have hC := of_decide_eq_false hC
    rw [if_neg (by omega)] at hC
    simp only [cond_false]
    omega
theorem decCountM_le (r : Rd) (n : Int) : 0 ≤ (decCountM r n).1 ∧ (decCountM r n).1 ≤ 7 := ⟨rdCountM_nn r 7, rdCountM_le r 7 (by decide)⟩
def decTextM (r : Rd) (s : ByteArray) (n : Int) : (ByteArray × Rd) :=
 ((rdTextM r n).1, ((rdTextM r n).2))
theorem decTextM_ok (r : Rd) (s : ByteArray) (n : Int) :
 ACalls Try.prog G_ 51 [vs s, vi n, .ptr 0 0] (number 0 [.box 74 [.ptr 1 0], .box 97 (avs (Rd.cells r))]) 2 (fun r_ τ_ => r_ = vs ((decTextM r s n).1) ∧ τ_ = number 0 [.box 74 [.ptr 1 0], .box 97 (avs (Rd.cells ((decTextM r s n).2)))]) := by
 refine ACalls.bodyH Try.func51 rfl 4009 [(0, vs s), (1, vi n), (2, .ptr 0 0)] ?_
 refine AWp.hz [.run 1] 4009 [(1, vi n), (2, .ptr 0 0)] [(0, .box 74 [.ptr 1 0]), (1, .box 97 (avs (Rd.cells r)))] 2 ?_
 refine AWp.rg ?_
 refine AOps.hz [.run 2] 4009 [(6, .ptr 1 0), (7, vi n)] [(0, .box 74 [.ptr 1 0]), (1, .box 97 (avs (Rd.cells r)))] 2 ?_
 refine AOps.callX 52 [] [] [1] [.box 97 (avs (Rd.cells r))] [.box 97 (avs (Rd.cells ((rdTextM r n).2)))] (.func 52) [(.tmp 6), (.tmp 7)] [.ptr 0 0, vi n] (vs ((rdTextM r n).1)) (rdTextM_ok r n) ?_
 refine AOps.he [.run 1] 4009 [(5, vs ((rdTextM r n).1))] [(0, .box 74 [.ptr 1 0]), (1, .box 97 (avs (Rd.cells ((rdTextM r n).2))))] 2 ?_
 refine AWp.ret ?_
 exact leafH (.inr rfl) (r := vs ((rdTextM r n).1)) (τ := [(0, .box 74 [.ptr 1 0]), (1, .box 97 (avs (Rd.cells ((rdTextM r n).2))))]) (by show (vs ((rdTextM r n).1) : AV) = vs ((decTextM r s n).1); unfold decTextM; try kernel_rfl) (by show ([(0, .box 74 [.ptr 1 0]), (1, .box 97 (avs (Rd.cells ((rdTextM r n).2))))] : Heap) = number 0 [.box 74 [.ptr 1 0], .box 97 (avs (Rd.cells ((decTextM r s n).2)))]; unfold decTextM; try kernel_rfl)
def decValM (r : Rd) (v : Val) : (Val × Rd) :=
 (((takeM r).1), ((takeM r).2))
theorem decValM_ok (r : Rd) (v : Val) :
 ACalls Try.prog G_ 53 [.agg (avs (Val.cells v)), .ptr 0 0] (number 0 [.box 74 [.ptr 1 0], .box 97 (avs (Rd.cells r))]) 2 (fun r_ τ_ => r_ = .agg (avs (Val.cells ((decValM r v).1))) ∧ τ_ = number 0 [.box 74 [.ptr 1 0], .box 97 (avs (Rd.cells ((decValM r v).2)))]) := by
 refine ACalls.bodyH Try.func53 rfl 4006 [(0, .agg (avs (Val.cells v))), (1, .ptr 0 0)] ?_
 refine AWp.hz [.run 2] 4006 [(1, .ptr 0 0), (3, .ptr 3 0)] [(3, .box 53 [vi 0, vi 0, vs (⟨#[]⟩)]), (0, .box 74 [.ptr 1 0]), (1, .box 97 (avs (Rd.cells r)))] 4 ?_
 refine AWp.rg ?_
 refine AOps.hz [.run 1] 4006 [(3, .ptr 3 0), (4, .ptr 1 0)] [(3, .box 53 [vi 0, vi 0, vs (⟨#[]⟩)]), (0, .box 74 [.ptr 1 0]), (1, .box 97 (avs (Rd.cells r)))] 4 ?_
 refine AOps.callX 54 [] [] [1] [.box 97 (avs (Rd.cells r))] [.box 97 (avs (Rd.cells ((takeM r).2)))] (.func 54) [(.tmp 4)] [.ptr 0 0] (.agg (avs (Val.cells ((takeM r).1)))) (takeM_ok r) ?_
 refine AOps.he [.run 1] 4006 [(3, .ptr 3 0)] [(3, .box 53 (avs (Val.cells ((takeM r).1)))), (0, .box 74 [.ptr 1 0]), (1, .box 97 (avs (Rd.cells ((takeM r).2))))] 4 ?_
 refine AWp.ret ?_
 exact leafH (.inr rfl) (r := .agg (avs (Val.cells ((takeM r).1)))) (τ := [(0, .box 74 [.ptr 1 0]), (1, .box 97 (avs (Rd.cells ((takeM r).2))))]) (by show (.agg (avs (Val.cells ((takeM r).1))) : AV) = .agg (avs (Val.cells ((decValM r v).1))); unfold decValM; try kernel_rfl) (by show ([(0, .box 74 [.ptr 1 0]), (1, .box 97 (avs (Rd.cells ((takeM r).2))))] : Heap) = number 0 [.box 74 [.ptr 1 0], .box 97 (avs (Rd.cells ((decValM r v).2)))]; unfold decValM; try kernel_rfl)
end Go.Proofs.Ytnnlaccdendkpaa
