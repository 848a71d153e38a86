/- Messages: encoding and decoding. -/
import Derived.Test.YtnnlaccdendkpaaPB6
namespace Go.Proofs.Ytnnlaccdendkpaa
open Go Go.Av Go.Hh Go.Proofs
set_option maxRecDepth 100000
set_option maxHeartbeats 4000000
def newRd (s : ByteArray) : Rd := (⟨s, 0, true⟩ : Rd)
theorem newRd_ok (s : ByteArray) :
 ACalls Try.prog G_ 45 [vs s] [] 0 (fun r_ τ_ => r_ = .ptr 0 0 ∧ τ_ = [(0, .box 97 (avs (Rd.cells (newRd s))))]) := by
 refine ACalls.body Try.func45 rfl 6 [(0, vs s)] ?_
 refine AWp.hz [.run 1] 6 [(0, vs s)] [] 0 ?_
 refine AWp.hz [.run 4] 6 [(2, .ptr 0 0)] [(0, .box 97 [vs s, vi 0, vb true])] 1 ?_
 refine AWp.ret ?_
 exact leafH (.inr rfl) (r := .ptr 0 0) (τ := [(0, .box 97 [vs s, vi 0, vb true])]) rfl rfl
theorem rdTextM_size (r : Rd) (n : Int) (hn : 0 ≤ n) : (rdTextM r n).1.size ≤ n.toNat := by
 have h1 := rdCountM_nn r n
 have h2 := rdCountM_le r n hn
 unfold rdTextM
 simp only [cond_eq_ite]
 repeat' split
 all_goals first
  | exact Nat.zero_le _
  | (simp only [ByteArray.size_extract]; omega)
theorem bodyDM_v1_data (r : Rd) (m : MsgV) : (bodyDM_v1 r m).data.size = 0 := by
 unfold bodyDM_v1
 cases hasEpochM m.kind <;> rfl
theorem bodyDM_data_size (r : Rd) (m : MsgV) : (bodyDM r m).1.data.size ≤ 1000000 := by
 have h1 := bodyDM_v1_data r m
 have h2 : (decTextM (bodyDM_v4 r m) m.data 512).1.size ≤ 512 := rdTextM_size _ 512 (by decide)
 have h3 : (decTextM (bodyDM_v7 r m) m.data 512).1.size ≤ 512 := rdTextM_size _ 512 (by decide)
 have h6 : (bodyDM_v6 r m).data = (bodyDM_v1 r m).data := by
  unfold bodyDM_v6
  cases hasNamesM m.kind <;> rfl
 unfold bodyDM
 cases hasItemsM m.kind with
 | true =>
  simp only [cond_true]
  cases hasDataM m.kind <;> simp only [cond_true, cond_false] <;> omega
 | false =>
  simp only [cond_false]
  unfold bodyDM_v8
  cases hasDataM m.kind <;> simp only [cond_true, cond_false]
  ·rw [h6]; omega
  ·omega
def encodeM (m : MsgV) : ByteArray × Int :=
 (bif (mCheckM m != 0) then (⟨#[]⟩, mCheckM m) else ((bodyEM (wintM m.kind) m).2, 0))
abbrev encodeM_c1 (m : MsgV) : Nat × AObj := (0, .box 24 (avs (MsgV.cells m)))
theorem encodeM_ok (m : MsgV) (hi : ∀ x ∈ m.items, x.key.cluster.size ≤ 1000000 ∧ x.key.attr.size ≤ 1000000 ∧ x.value.s.size ≤ 1000000) (hl : m.items.length ≤ 1000) (hc : m.cluster.size ≤ 1000000) (hn : m.name.size ≤ 1000000) (hd : m.data.size ≤ 1000000) :
 ACalls Try.prog G_ 13 [.agg (avs (MsgV.cells m))] [] 0 (fun r τ => r = .tuple [vs ((encodeM m).1), vi ((encodeM m).2)] ∧ τ = []) := by
 refine ACalls.body Try.func13 rfl 28 [(0, .agg (avs (MsgV.cells m)))] ?_
 refine AWp.hz [.run 3] 28 [(1, .ptr 0 0)] [(encodeM_c1 m)] 1 ?_
 refine AWp.seq ?_
 refine AWp.hz [.run 1, .call 11 [.agg (avs (MsgV.cells m))] (vi (mCheckM m)) [] 0 (mCheckM_ok m (by first | assumption | with_reducible exact bodyDM_data_size _ _ | exact Nat.le_trans (wintM_size _) (by decide) | omega)), .run 1] 28 [(1, .ptr 0 0), (4, vi (mCheckM m))] [(encodeM_c1 m)] 1 ?_
 refine AWp.hz [.run 2] 28 [(1, .ptr 0 0), (4, vi (mCheckM m)), (11, vb (mCheckM m != 0))] [(encodeM_c1 m)] 1 ?_
 refine AWp.cnd ((mCheckM m != 0)) (fun h1 => ?_) (fun h1 => ?_)
 ·
  refine AWp.hz [.run 3] 28 [(2, vs (⟨#[]⟩)), (3, vi (mCheckM m))] [] 1 ?_
  refine AWp.ret ?_
  exact leafR (r := .tuple [vs (⟨#[]⟩), vi (mCheckM m)]) (by show (.tuple [vs (⟨#[]⟩), vi (mCheckM m)] : AV) = .tuple [vs ((encodeM m).1), vi ((encodeM m).2)]; unfold encodeM; (try rw [h1]); try kernel_rfl)
 ·
  refine AWp.skip ?_
  refine AWp.hz [.run 2, .call 32 [vi m.kind] (vs (wintM m.kind)) [] 0 (wintM_ok m.kind), .run 2] 28 [(1, .ptr 0 0), (5, .ptr 1 0)] [(1, .box 9 [vs (wintM m.kind)]), (encodeM_c1 m)] 2 ?_
  refine AWp.hz [.fnc, .run 1] 28 [(1, .ptr 0 0), (5, .ptr 1 0), (6, .fn (.func 33) [] [.ptr 1 0])] [(1, .box 9 [vs (wintM m.kind)]), (encodeM_c1 m)] 2 ?_
  refine AWp.hz [.run 5] 28 [(1, .ptr 0 0), (5, .ptr 1 0), (7, .ptr 2 0)] [(2, .box 70 [.fn (.func 33) [] [.ptr 1 0], .fn (.func 33) [] [.ptr 1 0], .rv (.v (.nilFunc)), .rv (.v (.nilFunc))]), (1, .box 9 [vs (wintM m.kind)]), (encodeM_c1 m)] 3 ?_
  refine AWp.hz [.fnc, .run 2] 28 [(1, .ptr 0 0), (5, .ptr 1 0), (7, .ptr 2 0)] [(2, .box 70 [.fn (.func 33) [] [.ptr 1 0], .fn (.func 33) [] [.ptr 1 0], .fn (.func 34) [] [.ptr 1 0], .rv (.v (.nilFunc))]), (1, .box 9 [vs (wintM m.kind)]), (encodeM_c1 m)] 3 ?_
  refine AWp.hz [.fnc, .run 2] 28 [(1, .ptr 0 0), (5, .ptr 1 0), (7, .ptr 2 0)] [(2, .box 70 [.fn (.func 33) [] [.ptr 1 0], .fn (.func 33) [] [.ptr 1 0], .fn (.func 34) [] [.ptr 1 0], .fn (.func 36) [] [.ptr 1 0]]), (1, .box 9 [vs (wintM m.kind)]), (encodeM_c1 m)] 3 ?_
  refine AWp.rg ?_
  refine AOps.hz [.run 2] 28 [(5, .ptr 1 0), (24, .agg [.fn (.func 33) [] [.ptr 1 0], .fn (.func 33) [] [.ptr 1 0], .fn (.func 34) [] [.ptr 1 0], .fn (.func 36) [] [.ptr 1 0]]), (25, .agg (avs (MsgV.cells m)))] [(1, .box 9 [vs (wintM m.kind)])] 3 ?_
  refine AOps.callX 38 [] [] [1] [.box 9 [vs (wintM m.kind)]] [.box 9 [vs ((bodyEM (wintM m.kind) m).2)]] (.func 38) [(.tmp 24), (.tmp 25)] [.agg [.fn (.func 33) [] [.ptr 0 0], .fn (.func 33) [] [.ptr 0 0], .fn (.func 34) [] [.ptr 0 0], .fn (.func 36) [] [.ptr 0 0]], .agg (avs (MsgV.cells m))] (.agg (avs (MsgV.cells ((bodyEM (wintM m.kind) m).1)))) (bodyEM_ok (wintM m.kind) m (by first | assumption | with_reducible exact bodyDM_data_size _ _ | exact Nat.le_trans (wintM_size _) (by decide) | omega) (by first | assumption | with_reducible exact bodyDM_data_size _ _ | exact Nat.le_trans (wintM_size _) (by decide) | omega) (by first | assumption | with_reducible exact bodyDM_data_size _ _ | exact Nat.le_trans (wintM_size _) (by decide) | omega) (by first | assumption | with_reducible exact bodyDM_data_size _ _ | exact Nat.le_trans (wintM_size _) (by decide) | omega) (by first | assumption | with_reducible exact bodyDM_data_size _ _ | exact Nat.le_trans (wintM_size _) (by decide) | omega) (by first | assumption | with_reducible exact bodyDM_data_size _ _ | exact Nat.le_trans (wintM_size _) (by decide) | omega)) ?_
  refine AOps.he [] 28 [(5, .ptr 1 0)] [(1, .box 9 [vs ((bodyEM (wintM m.kind) m).2)])] 3 ?_
  refine AWp.hz [.run 3] 28 [(2, vs ((bodyEM (wintM m.kind) m).2)), (3, vi 0)] [] 3 ?_
  refine AWp.ret ?_
  exact leafR (r := .tuple [vs ((bodyEM (wintM m.kind) m).2), vi 0]) (by show (.tuple [vs ((bodyEM (wintM m.kind) m).2), vi 0] : AV) = .tuple [vs ((encodeM m).1), vi ((encodeM m).2)]; unfold encodeM; (try rw [h1]); try kernel_rfl)
def decodeM (s : ByteArray) : MsgV × Int :=
 (bif ((rdErrM ((rdIntM (newRd s)).2)) != 0) then ((⟨0, 0, 0, 0, [], ⟨#[]⟩, ⟨#[]⟩, ⟨#[]⟩⟩ : MsgV), (rdErrM ((rdIntM (newRd s)).2))) else (bif (decide ((rdIntM (newRd s)).1 < 1) || decide ((rdIntM (newRd s)).1 > 7)) then ((⟨0, 0, 0, 0, [], ⟨#[]⟩, ⟨#[]⟩, ⟨#[]⟩⟩ : MsgV), 7) else (bif ((bif ((rdEndM ((bodyDM ((rdIntM (newRd s)).2) (⟨(rdIntM (newRd s)).1, 0, 0, 0, [], ⟨#[]⟩, ⟨#[]⟩, ⟨#[]⟩⟩ : MsgV)).2)) == 0) then mCheckM ((bodyDM ((rdIntM (newRd s)).2) (⟨(rdIntM (newRd s)).1, 0, 0, 0, [], ⟨#[]⟩, ⟨#[]⟩, ⟨#[]⟩⟩ : MsgV)).1) else (rdEndM ((bodyDM ((rdIntM (newRd s)).2) (⟨(rdIntM (newRd s)).1, 0, 0, 0, [], ⟨#[]⟩, ⟨#[]⟩, ⟨#[]⟩⟩ : MsgV)).2))) != 0) then ((⟨0, 0, 0, 0, [], ⟨#[]⟩, ⟨#[]⟩, ⟨#[]⟩⟩ : MsgV), (bif ((rdEndM ((bodyDM ((rdIntM (newRd s)).2) (⟨(rdIntM (newRd s)).1, 0, 0, 0, [], ⟨#[]⟩, ⟨#[]⟩, ⟨#[]⟩⟩ : MsgV)).2)) == 0) then mCheckM ((bodyDM ((rdIntM (newRd s)).2) (⟨(rdIntM (newRd s)).1, 0, 0, 0, [], ⟨#[]⟩, ⟨#[]⟩, ⟨#[]⟩⟩ : MsgV)).1) else (rdEndM ((bodyDM ((rdIntM (newRd s)).2) (⟨(rdIntM (newRd s)).1, 0, 0, 0, [], ⟨#[]⟩, ⟨#[]⟩, ⟨#[]⟩⟩ : MsgV)).2)))) else (((bodyDM ((rdIntM (newRd s)).2) (⟨(rdIntM (newRd s)).1, 0, 0, 0, [], ⟨#[]⟩, ⟨#[]⟩, ⟨#[]⟩⟩ : MsgV)).1), 0))))
abbrev decodeM_c1 : Nat × AObj := (0, .box 24 [vi 0, vi 0, vi 0, vi 0, .rv (.v (.slice none 0 0)), vs (⟨#[]⟩), vs (⟨#[]⟩), vs (⟨#[]⟩)])
abbrev decodeM_c2 (s : ByteArray) : Nat × AObj := (4, .box 24 (avs (MsgV.cells ((bodyDM ((rdIntM (newRd s)).2) (⟨(rdIntM (newRd s)).1, 0, 0, 0, [], ⟨#[]⟩, ⟨#[]⟩, ⟨#[]⟩⟩ : MsgV)).1))))
abbrev decodeM_c3 (s : ByteArray) : Nat × AObj := (1, .box 97 (avs (Rd.cells ((rdIntM (newRd s)).2))))
abbrev decodeM_c4 : Nat × AObj := (0, .box 24 [vi 0, vi 0, vi 0, vi 0, .rv (.sl 7 (([]).map ItemV.cells)), vs (⟨#[]⟩), vs (⟨#[]⟩), vs (⟨#[]⟩)])
abbrev decodeM_c5 (s : ByteArray) : Nat × AV := (5, vi ((rdIntM (newRd s)).1))
theorem decodeM_ok (s : ByteArray) (hs : s.size ≤ 1000000) :
 ACalls Try.prog G_ 15 [vs s] [] 0 (fun r τ => r = .tuple [.agg (avs (MsgV.cells ((decodeM s).1))), vi ((decodeM s).2)] ∧ τ = []) := by
 refine ACalls.body Try.func15 rfl 47 [(0, vs s)] ?_
 refine AWp.hz [.run 2] 47 [(0, vs s), (2, .ptr 0 0)] [decodeM_c1] 1 ?_
 refine AWp.hz [.run 1, .call 45 [vs s] (.ptr 0 0) [(0, .box 97 (avs (Rd.cells (newRd s))))] 1 (newRd_ok s), .run 2] 47 [(2, .ptr 0 0), (4, .ptr 2 0)] [(2, .box 74 [.ptr 1 0]), (1, .box 97 (avs (Rd.cells (newRd s)))), decodeM_c1] 3 ?_
 refine AWp.rg ?_
 refine AOps.hz [.run 1] 47 [(2, .ptr 0 0), (4, .ptr 2 0), (12, .ptr 1 0)] [(2, .box 74 [.ptr 1 0]), (1, .box 97 (avs (Rd.cells (newRd s)))), decodeM_c1] 3 ?_
 refine AOps.callX 46 [] [] [1] [.box 97 (avs (Rd.cells (newRd s)))] [.box 97 (avs (Rd.cells ((rdIntM (newRd s)).2)))] (.func 46) [(.tmp 12)] [.ptr 0 0] (vi ((rdIntM (newRd s)).1)) (rdIntM_ok (newRd s)) ?_
 refine AOps.he [.run 1] 47 [(2, .ptr 0 0), (4, .ptr 2 0), (decodeM_c5 s)] [(2, .box 74 [.ptr 1 0]), (decodeM_c3 s), decodeM_c1] 3 ?_
 refine AWp.seq ?_
 refine AWp.rg ?_
 refine AOps.hz [.run 1] 47 [(2, .ptr 0 0), (4, .ptr 2 0), (decodeM_c5 s), (14, .ptr 1 0)] [(2, .box 74 [.ptr 1 0]), (decodeM_c3 s), decodeM_c1] 3 ?_
 refine AOps.callX 47 [] [] [1] [.box 97 (avs (Rd.cells ((rdIntM (newRd s)).2)))] [.box 97 (avs (Rd.cells ((rdIntM (newRd s)).2)))] (.func 47) [(.tmp 14)] [.ptr 0 0] (vi (rdErrM ((rdIntM (newRd s)).2))) (rdErrM_ok ((rdIntM (newRd s)).2)) ?_
 refine AOps.he [.run 1] 47 [(2, .ptr 0 0), (4, .ptr 2 0), (decodeM_c5 s), (6, vi (rdErrM ((rdIntM (newRd s)).2)))] [(2, .box 74 [.ptr 1 0]), (decodeM_c3 s), decodeM_c1] 3 ?_
 refine AWp.hz [.run 2] 47 [(2, .ptr 0 0), (4, .ptr 2 0), (decodeM_c5 s), (6, vi (rdErrM ((rdIntM (newRd s)).2))), (17, vb ((rdErrM ((rdIntM (newRd s)).2)) != 0))] [(2, .box 74 [.ptr 1 0]), (decodeM_c3 s), decodeM_c1] 3 ?_
 refine AWp.cnd (((rdErrM ((rdIntM (newRd s)).2)) != 0)) (fun h1 => ?_) (fun h1 => ?_)
 ·
  refine AWp.hz [.run 4] 47 [(2, .ptr 0 0), (3, vi (rdErrM ((rdIntM (newRd s)).2)))] [decodeM_c1] 3 ?_
  refine AWp.le (Le.nilsB (s' := Z 47 [(2, .ptr 0 0), (3, vi (rdErrM ((rdIntM (newRd s)).2)))] [decodeM_c4] 3) 0 [none, none, none, none, some 7, none, none, none] (by kernel_rfl)) ?_
  refine AWp.ret ?_
  exact leafR (r := .tuple [.agg [vi 0, vi 0, vi 0, vi 0, .rv (.sl 7 (([]).map ItemV.cells)), vs (⟨#[]⟩), vs (⟨#[]⟩), vs (⟨#[]⟩)], vi (rdErrM ((rdIntM (newRd s)).2))]) (by show (.tuple [.agg [vi 0, vi 0, vi 0, vi 0, .rv (.sl 7 (([]).map ItemV.cells)), vs (⟨#[]⟩), vs (⟨#[]⟩), vs (⟨#[]⟩)], vi (rdErrM ((rdIntM (newRd s)).2))] : AV) = .tuple [.agg (avs (MsgV.cells ((decodeM s).1))), vi ((decodeM s).2)]; unfold decodeM; (try rw [h1]); try kernel_rfl)
 ·
  refine AWp.skip ?_
  refine AWp.seq ?_
  refine AWp.join (Z 47 [(2, .ptr 0 0), (4, .ptr 2 0), (5, vi ((rdIntM (newRd s)).1)), (25, vb (decide ((rdIntM (newRd s)).1 < 1) || decide ((rdIntM (newRd s)).1 > 7)))] [(2, .box 74 [.ptr 1 0]), (1, .box 97 (avs (Rd.cells ((rdIntM (newRd s)).2)))), (0, .box 24 [vi 0, vi 0, vi 0, vi 0, .rv (.v (.slice none 0 0)), vs (⟨#[]⟩), vs (⟨#[]⟩), vs (⟨#[]⟩)])] 3) ?_ ?_
  ·
   refine AWp.region ?_
   refine AOps.hg [.run 3] (decide ((rdIntM (newRd s)).1 < 1)) 47 (fun b_ => [(2, .ptr 0 0), (4, .ptr 2 0), (decodeM_c5 s), (22, vb b_)]) [(2, .box 74 [.ptr 1 0]), (decodeM_c3 s), decodeM_c1] 3 (fun hg2 => ?_) (fun hg2 => ?_)
   ·
    have hg2' := of_decide_eq_true hg2
    refine AOps.he [.run 3] 47 [(2, .ptr 0 0), (4, .ptr 2 0), (decodeM_c5 s), (25, vb true)] [(2, .box 74 [.ptr 1 0]), (decodeM_c3 s), decodeM_c1] 3 ?_
    exact leZ (by rw [hg2]; try kernel_rfl)
   ·
    have hg2' := of_decide_eq_false hg2
    refine AOps.he [.run 3] 47 [(2, .ptr 0 0), (4, .ptr 2 0), (decodeM_c5 s), (25, vb (decide ((rdIntM (newRd s)).1 > 7)))] [(2, .box 74 [.ptr 1 0]), (decodeM_c3 s), decodeM_c1] 3 ?_
    exact leZ (by rw [hg2]; try kernel_rfl)
  ·
   refine AWp.cnd ((decide ((rdIntM (newRd s)).1 < 1) || decide ((rdIntM (newRd s)).1 > 7))) (fun h3 => ?_) (fun h3 => ?_)
   ·
    refine AWp.hz [.run 3] 47 [(2, .ptr 0 0), (3, vi 7)] [decodeM_c1] 3 ?_
    refine AWp.le (Le.nilsB (s' := Z 47 [(2, .ptr 0 0), (3, vi 7)] [decodeM_c4] 3) 0 [none, none, none, none, some 7, none, none, none] (by kernel_rfl)) ?_
    refine AWp.ret ?_
    exact leafR (r := .tuple [.agg [vi 0, vi 0, vi 0, vi 0, .rv (.sl 7 (([]).map ItemV.cells)), vs (⟨#[]⟩), vs (⟨#[]⟩), vs (⟨#[]⟩)], vi 7]) (by show (.tuple [.agg [vi 0, vi 0, vi 0, vi 0, .rv (.sl 7 (([]).map ItemV.cells)), vs (⟨#[]⟩), vs (⟨#[]⟩), vs (⟨#[]⟩)], vi 7] : AV) = .tuple [.agg (avs (MsgV.cells ((decodeM s).1))), vi ((decodeM s).2)]; unfold decodeM; (try rw [h1]); (try rw [h3]); try kernel_rfl)
   ·
    have h3l := or_fl h3
    have h3l' := of_decide_eq_false h3l
    have h3r := or_fr h3
    have h3r' := of_decide_eq_false h3r
    refine AWp.skip ?_
    refine AWp.hz [.fnc, .fnc, .fnc, .fnc, .run 3] 47 [(2, .ptr 0 0), (4, .ptr 2 0), (decodeM_c5 s), (7, .ptr 3 0)] [(3, .box 70 [.fn (.func 48) [] [.ptr 2 0], .fn (.func 49) [] [.ptr 2 0], .fn (.func 51) [] [.ptr 2 0], .fn (.func 53) [] [.ptr 2 0]]), (2, .box 74 [.ptr 1 0]), (decodeM_c3 s), decodeM_c1] 4 ?_
    refine AWp.rg ?_
    refine AOps.hz [.run 3] 47 [(2, .ptr 0 0), (4, .ptr 2 0), (32, .agg [.fn (.func 48) [] [.ptr 2 0], .fn (.func 49) [] [.ptr 2 0], .fn (.func 51) [] [.ptr 2 0], .fn (.func 53) [] [.ptr 2 0]]), (34, .agg [vi ((rdIntM (newRd s)).1), vi 0, vi 0, vi 0, .rv (.v (.slice none 0 0)), vs (⟨#[]⟩), vs (⟨#[]⟩), vs (⟨#[]⟩)])] [(2, .box 74 [.ptr 1 0]), (decodeM_c3 s), decodeM_c1] 4 ?_
    refine AOps.hz [.nils 34 [none, none, none, none, some 7, none, none, none]] 47 [(2, .ptr 0 0), (4, .ptr 2 0), (32, .agg [.fn (.func 48) [] [.ptr 2 0], .fn (.func 49) [] [.ptr 2 0], .fn (.func 51) [] [.ptr 2 0], .fn (.func 53) [] [.ptr 2 0]]), (34, .agg [vi ((rdIntM (newRd s)).1), vi 0, vi 0, vi 0, .rv (.sl 7 (([]).map ItemV.cells)), vs (⟨#[]⟩), vs (⟨#[]⟩), vs (⟨#[]⟩)])] [(2, .box 74 [.ptr 1 0]), (decodeM_c3 s), decodeM_c1] 4 ?_
    refine AOps.callX 38 [] [] [2, 1] [.box 74 [.ptr 1 0], .box 97 (avs (Rd.cells ((rdIntM (newRd s)).2)))] [.box 74 [.ptr 1 0], .box 97 (avs (Rd.cells ((bodyDM ((rdIntM (newRd s)).2) (⟨(rdIntM (newRd s)).1, 0, 0, 0, [], ⟨#[]⟩, ⟨#[]⟩, ⟨#[]⟩⟩ : MsgV)).2)))] (.func 38) [(.tmp 32), (.tmp 34)] [.agg [.fn (.func 48) [] [.ptr 0 0], .fn (.func 49) [] [.ptr 0 0], .fn (.func 51) [] [.ptr 0 0], .fn (.func 53) [] [.ptr 0 0]], .agg [vi ((rdIntM (newRd s)).1), vi 0, vi 0, vi 0, .rv (.sl 7 (([]).map ItemV.cells)), vs (⟨#[]⟩), vs (⟨#[]⟩), vs (⟨#[]⟩)]] (.agg (avs (MsgV.cells ((bodyDM ((rdIntM (newRd s)).2) (⟨(rdIntM (newRd s)).1, 0, 0, 0, [], ⟨#[]⟩, ⟨#[]⟩, ⟨#[]⟩⟩ : MsgV)).1)))) (bodyDM_ok ((rdIntM (newRd s)).2) (⟨(rdIntM (newRd s)).1, 0, 0, 0, [], ⟨#[]⟩, ⟨#[]⟩, ⟨#[]⟩⟩ : MsgV)) ?_
    refine AOps.he [.run 2] 47 [(2, .ptr 0 0), (4, .ptr 2 0), (8, .ptr 4 0)] [(decodeM_c2 s), (2, .box 74 [.ptr 1 0]), (1, .box 97 (avs (Rd.cells ((bodyDM ((rdIntM (newRd s)).2) (⟨(rdIntM (newRd s)).1, 0, 0, 0, [], ⟨#[]⟩, ⟨#[]⟩, ⟨#[]⟩⟩ : MsgV)).2)))), decodeM_c1] 5 ?_
    refine AWp.rg ?_
    refine AOps.hz [.run 1] 47 [(2, .ptr 0 0), (8, .ptr 4 0), (36, .ptr 1 0)] [(decodeM_c2 s), (1, .box 97 (avs (Rd.cells ((bodyDM ((rdIntM (newRd s)).2) (⟨(rdIntM (newRd s)).1, 0, 0, 0, [], ⟨#[]⟩, ⟨#[]⟩, ⟨#[]⟩⟩ : MsgV)).2)))), decodeM_c1] 5 ?_
    refine AOps.callX 55 [] [] [1] [.box 97 (avs (Rd.cells ((bodyDM ((rdIntM (newRd s)).2) (⟨(rdIntM (newRd s)).1, 0, 0, 0, [], ⟨#[]⟩, ⟨#[]⟩, ⟨#[]⟩⟩ : MsgV)).2)))] [.box 97 (avs (Rd.cells ((bodyDM ((rdIntM (newRd s)).2) (⟨(rdIntM (newRd s)).1, 0, 0, 0, [], ⟨#[]⟩, ⟨#[]⟩, ⟨#[]⟩⟩ : MsgV)).2)))] (.func 55) [(.tmp 36)] [.ptr 0 0] (vi (rdEndM ((bodyDM ((rdIntM (newRd s)).2) (⟨(rdIntM (newRd s)).1, 0, 0, 0, [], ⟨#[]⟩, ⟨#[]⟩, ⟨#[]⟩⟩ : MsgV)).2))) (rdEndM_ok ((bodyDM ((rdIntM (newRd s)).2) (⟨(rdIntM (newRd s)).1, 0, 0, 0, [], ⟨#[]⟩, ⟨#[]⟩, ⟨#[]⟩⟩ : MsgV)).2)) ?_
    refine AOps.he [.run 1] 47 [(2, .ptr 0 0), (8, .ptr 4 0), (9, vi (rdEndM ((bodyDM ((rdIntM (newRd s)).2) (⟨(rdIntM (newRd s)).1, 0, 0, 0, [], ⟨#[]⟩, ⟨#[]⟩, ⟨#[]⟩⟩ : MsgV)).2)))] [(decodeM_c2 s), decodeM_c1] 5 ?_
    refine AWp.join (Z 47 [(2, .ptr 0 0), (8, .ptr 4 0), (9, vi (bif ((rdEndM ((bodyDM ((rdIntM (newRd s)).2) (⟨(rdIntM (newRd s)).1, 0, 0, 0, [], ⟨#[]⟩, ⟨#[]⟩, ⟨#[]⟩⟩ : MsgV)).2)) == 0) then mCheckM ((bodyDM ((rdIntM (newRd s)).2) (⟨(rdIntM (newRd s)).1, 0, 0, 0, [], ⟨#[]⟩, ⟨#[]⟩, ⟨#[]⟩⟩ : MsgV)).1) else (rdEndM ((bodyDM ((rdIntM (newRd s)).2) (⟨(rdIntM (newRd s)).1, 0, 0, 0, [], ⟨#[]⟩, ⟨#[]⟩, ⟨#[]⟩⟩ : MsgV)).2))))] [(4, .box 24 (avs (MsgV.cells ((bodyDM ((rdIntM (newRd s)).2) (⟨(rdIntM (newRd s)).1, 0, 0, 0, [], ⟨#[]⟩, ⟨#[]⟩, ⟨#[]⟩⟩ : MsgV)).1)))), (0, .box 24 [vi 0, vi 0, vi 0, vi 0, .rv (.v (.slice none 0 0)), vs (⟨#[]⟩), vs (⟨#[]⟩), vs (⟨#[]⟩)])] 5) ?_ ?_
    ·
     refine AWp.hz [.run 2] 47 [(2, .ptr 0 0), (8, .ptr 4 0), (9, vi (rdEndM ((bodyDM ((rdIntM (newRd s)).2) (⟨(rdIntM (newRd s)).1, 0, 0, 0, [], ⟨#[]⟩, ⟨#[]⟩, ⟨#[]⟩⟩ : MsgV)).2))), (39, vb ((rdEndM ((bodyDM ((rdIntM (newRd s)).2) (⟨(rdIntM (newRd s)).1, 0, 0, 0, [], ⟨#[]⟩, ⟨#[]⟩, ⟨#[]⟩⟩ : MsgV)).2)) == 0))] [(decodeM_c2 s), decodeM_c1] 5 ?_
     refine AWp.cnd (((rdEndM ((bodyDM ((rdIntM (newRd s)).2) (⟨(rdIntM (newRd s)).1, 0, 0, 0, [], ⟨#[]⟩, ⟨#[]⟩, ⟨#[]⟩⟩ : MsgV)).2)) == 0)) (fun h4 => ?_) (fun h4 => ?_)
     ·
      refine AWp.he [.run 1, .call 11 [.agg (avs (MsgV.cells ((bodyDM ((rdIntM (newRd s)).2) (⟨(rdIntM (newRd s)).1, 0, 0, 0, [], ⟨#[]⟩, ⟨#[]⟩, ⟨#[]⟩⟩ : MsgV)).1)))] (vi (mCheckM ((bodyDM ((rdIntM (newRd s)).2) (⟨(rdIntM (newRd s)).1, 0, 0, 0, [], ⟨#[]⟩, ⟨#[]⟩, ⟨#[]⟩⟩ : MsgV)).1))) [] 0 (mCheckM_ok ((bodyDM ((rdIntM (newRd s)).2) (⟨(rdIntM (newRd s)).1, 0, 0, 0, [], ⟨#[]⟩, ⟨#[]⟩, ⟨#[]⟩⟩ : MsgV)).1) (by first | assumption | with_reducible exact bodyDM_data_size _ _ | exact Nat.le_trans (wintM_size _) (by decide) | omega)), .run 1] 47 [(2, .ptr 0 0), (8, .ptr 4 0), (9, vi (mCheckM ((bodyDM ((rdIntM (newRd s)).2) (⟨(rdIntM (newRd s)).1, 0, 0, 0, [], ⟨#[]⟩, ⟨#[]⟩, ⟨#[]⟩⟩ : MsgV)).1)))] [(decodeM_c2 s), decodeM_c1] 5 ?_
      exact leZ (by rw [h4]; try kernel_rfl)
     ·
      refine AWp.skip ?_
      exact leZ (by rw [h4]; try kernel_rfl)
    ·
     refine AWp.seq ?_
     refine AWp.hz [.run 2] 47 [(2, .ptr 0 0), (8, .ptr 4 0), (9, vi (bif ((rdEndM ((bodyDM ((rdIntM (newRd s)).2) (⟨(rdIntM (newRd s)).1, 0, 0, 0, [], ⟨#[]⟩, ⟨#[]⟩, ⟨#[]⟩⟩ : MsgV)).2)) == 0) then mCheckM ((bodyDM ((rdIntM (newRd s)).2) (⟨(rdIntM (newRd s)).1, 0, 0, 0, [], ⟨#[]⟩, ⟨#[]⟩, ⟨#[]⟩⟩ : MsgV)).1) else (rdEndM ((bodyDM ((rdIntM (newRd s)).2) (⟨(rdIntM (newRd s)).1, 0, 0, 0, [], ⟨#[]⟩, ⟨#[]⟩, ⟨#[]⟩⟩ : MsgV)).2)))), (43, vb ((bif ((rdEndM ((bodyDM ((rdIntM (newRd s)).2) (⟨(rdIntM (newRd s)).1, 0, 0, 0, [], ⟨#[]⟩, ⟨#[]⟩, ⟨#[]⟩⟩ : MsgV)).2)) == 0) then mCheckM ((bodyDM ((rdIntM (newRd s)).2) (⟨(rdIntM (newRd s)).1, 0, 0, 0, [], ⟨#[]⟩, ⟨#[]⟩, ⟨#[]⟩⟩ : MsgV)).1) else (rdEndM ((bodyDM ((rdIntM (newRd s)).2) (⟨(rdIntM (newRd s)).1, 0, 0, 0, [], ⟨#[]⟩, ⟨#[]⟩, ⟨#[]⟩⟩ : MsgV)).2))) != 0))] [(decodeM_c2 s), decodeM_c1] 5 ?_
     refine AWp.cnd (((bif ((rdEndM ((bodyDM ((rdIntM (newRd s)).2) (⟨(rdIntM (newRd s)).1, 0, 0, 0, [], ⟨#[]⟩, ⟨#[]⟩, ⟨#[]⟩⟩ : MsgV)).2)) == 0) then mCheckM ((bodyDM ((rdIntM (newRd s)).2) (⟨(rdIntM (newRd s)).1, 0, 0, 0, [], ⟨#[]⟩, ⟨#[]⟩, ⟨#[]⟩⟩ : MsgV)).1) else (rdEndM ((bodyDM ((rdIntM (newRd s)).2) (⟨(rdIntM (newRd s)).1, 0, 0, 0, [], ⟨#[]⟩, ⟨#[]⟩, ⟨#[]⟩⟩ : MsgV)).2))) != 0)) (fun h5 => ?_) (fun h5 => ?_)
     ·
      refine AWp.hz [.run 4] 47 [(2, .ptr 0 0), (3, vi (bif ((rdEndM ((bodyDM ((rdIntM (newRd s)).2) (⟨(rdIntM (newRd s)).1, 0, 0, 0, [], ⟨#[]⟩, ⟨#[]⟩, ⟨#[]⟩⟩ : MsgV)).2)) == 0) then mCheckM ((bodyDM ((rdIntM (newRd s)).2) (⟨(rdIntM (newRd s)).1, 0, 0, 0, [], ⟨#[]⟩, ⟨#[]⟩, ⟨#[]⟩⟩ : MsgV)).1) else (rdEndM ((bodyDM ((rdIntM (newRd s)).2) (⟨(rdIntM (newRd s)).1, 0, 0, 0, [], ⟨#[]⟩, ⟨#[]⟩, ⟨#[]⟩⟩ : MsgV)).2))))] [decodeM_c1] 5 ?_
      refine AWp.le (Le.nilsB (s' := Z 47 [(2, .ptr 0 0), (3, vi (bif ((rdEndM ((bodyDM ((rdIntM (newRd s)).2) (⟨(rdIntM (newRd s)).1, 0, 0, 0, [], ⟨#[]⟩, ⟨#[]⟩, ⟨#[]⟩⟩ : MsgV)).2)) == 0) then mCheckM ((bodyDM ((rdIntM (newRd s)).2) (⟨(rdIntM (newRd s)).1, 0, 0, 0, [], ⟨#[]⟩, ⟨#[]⟩, ⟨#[]⟩⟩ : MsgV)).1) else (rdEndM ((bodyDM ((rdIntM (newRd s)).2) (⟨(rdIntM (newRd s)).1, 0, 0, 0, [], ⟨#[]⟩, ⟨#[]⟩, ⟨#[]⟩⟩ : MsgV)).2))))] [decodeM_c4] 5) 0 [none, none, none, none, some 7, none, none, none] (by kernel_rfl)) ?_
      refine AWp.ret ?_
      exact leafR (r := .tuple [.agg [vi 0, vi 0, vi 0, vi 0, .rv (.sl 7 (([]).map ItemV.cells)), vs (⟨#[]⟩), vs (⟨#[]⟩), vs (⟨#[]⟩)], vi (bif ((rdEndM ((bodyDM ((rdIntM (newRd s)).2) (⟨(rdIntM (newRd s)).1, 0, 0, 0, [], ⟨#[]⟩, ⟨#[]⟩, ⟨#[]⟩⟩ : MsgV)).2)) == 0) then mCheckM ((bodyDM ((rdIntM (newRd s)).2) (⟨(rdIntM (newRd s)).1, 0, 0, 0, [], ⟨#[]⟩, ⟨#[]⟩, ⟨#[]⟩⟩ : MsgV)).1) else (rdEndM ((bodyDM ((rdIntM (newRd s)).2) (⟨(rdIntM (newRd s)).1, 0, 0, 0, [], ⟨#[]⟩, ⟨#[]⟩, ⟨#[]⟩⟩ : MsgV)).2)))]) (by show (.tuple [.agg [vi 0, vi 0, vi 0, vi 0, .rv (.sl 7 (([]).map ItemV.cells)), vs (⟨#[]⟩), vs (⟨#[]⟩), vs (⟨#[]⟩)], vi (bif ((rdEndM ((bodyDM ((rdIntM (newRd s)).2) (⟨(rdIntM (newRd s)).1, 0, 0, 0, [], ⟨#[]⟩, ⟨#[]⟩, ⟨#[]⟩⟩ : MsgV)).2)) == 0) then mCheckM ((bodyDM ((rdIntM (newRd s)).2) (⟨(rdIntM (newRd s)).1, 0, 0, 0, [], ⟨#[]⟩, ⟨#[]⟩, ⟨#[]⟩⟩ : MsgV)).1) else (rdEndM ((bodyDM ((rdIntM (newRd s)).2) (⟨(rdIntM (newRd s)).1, 0, 0, 0, [], ⟨#[]⟩, ⟨#[]⟩, ⟨#[]⟩⟩ : MsgV)).2)))] : AV) = .tuple [.agg (avs (MsgV.cells ((decodeM s).1))), vi ((decodeM s).2)]; unfold decodeM; (try rw [h1]); (try rw [h3]); (try rw [h5]); try kernel_rfl)
     ·
      refine AWp.skip ?_
      refine AWp.hz [.run 3] 47 [(2, .ptr 0 0), (3, vi 0)] [(0, .box 24 (avs (MsgV.cells ((bodyDM ((rdIntM (newRd s)).2) (⟨(rdIntM (newRd s)).1, 0, 0, 0, [], ⟨#[]⟩, ⟨#[]⟩, ⟨#[]⟩⟩ : MsgV)).1))))] 5 ?_
      refine AWp.ret ?_
      exact leafR (r := .tuple [.agg (avs (MsgV.cells ((bodyDM ((rdIntM (newRd s)).2) (⟨(rdIntM (newRd s)).1, 0, 0, 0, [], ⟨#[]⟩, ⟨#[]⟩, ⟨#[]⟩⟩ : MsgV)).1))), vi 0]) (by show (.tuple [.agg (avs (MsgV.cells ((bodyDM ((rdIntM (newRd s)).2) (⟨(rdIntM (newRd s)).1, 0, 0, 0, [], ⟨#[]⟩, ⟨#[]⟩, ⟨#[]⟩⟩ : MsgV)).1))), vi 0] : AV) = .tuple [.agg (avs (MsgV.cells ((decodeM s).1))), vi ((decodeM s).2)]; unfold decodeM; (try rw [h1]); (try rw [h3]); (try rw [h5]); try kernel_rfl)
end Go.Proofs.Ytnnlaccdendkpaa
