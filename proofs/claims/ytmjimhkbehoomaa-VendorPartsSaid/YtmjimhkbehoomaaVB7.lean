/- Vendor: Encode. -/
import Derived.Test.YtmjimhkbehoomaaVB6
import Derived.Test.YtmjimhkbehoomaaVQi
namespace Go.Proofs.Ytmjimhkbehoomaa
open Go Go.Av Go.Hh Go.Proofs
set_option maxRecDepth 100000
set_option maxHeartbeats 4000000
theorem or_not {a b : Bool} (h : (!a || !b) = false) : a = true ∧ b = true := by simpa using h
def encodeM_B1 (c : Codec) (h : Home) (l : List ItemV) (k1_ : Nat) (x_ : (List Int)) : Step (ByteArray × Int) ((List Int)) :=
  match x_ with
  | (a1_0) => (match (l)[k1_]? with | some e1_ => (bif (!((findM h e1_.key).2) || !(ownsM h e1_.key.dev c.vendor)) then .ret (⟨#[]⟩, 8) else (bif decide (ixEncM c.fields e1_ < 0) then .ret (⟨#[]⟩, 7) else (bif (fitsM ((findM h e1_.key).1) e1_.value != 0) then .ret (⟨#[]⟩, 2) else (match (c.fields)[(ixEncM c.fields e1_).toNat]? with | some e2_ => (bif !((numberM e2_ e1_.value).2) then .ret (⟨#[]⟩, 2) else .nxt ((a1_0 ++ [IntKind.u8.wrap e2_.code, IntKind.u8.wrap (((numberM e2_ e1_.value).1).fdiv 256), IntKind.u8.wrap ((numberM e2_ e1_.value).1)]))) | none => .nxt x_)))) | none => .nxt x_)
def encodeM_L1 (c : Codec) (h : Home) (l : List ItemV) (x_ : (List Int)) : (ByteArray × Int) ⊕ ((List Int)) := loopS (encodeM_B1 c h l) 0 l.length x_
def encodeM (c : Codec) (h : Home) (l : List ItemV) : ByteArray × Int :=
  (bif (venCheckM c h != 0) then (⟨#[]⟩, venCheckM c h) else (match (encodeM_L1 c h l ([])) with | .inl r_ => r_ | .inr (a1_0) => (bytesOf a1_0, 0)))
theorem encodeM_ok (c : Codec) (h : Home) (l : List ItemV) (hl : l.length ≤ 1000) :
 ACalls Try.prog G_ 15 [.agg (avs (Codec.cells c)), .agg (avs (Home.cells h)), .rv (.sl 7 (l.map ItemV.cells))] [] 0 (fun r τ => r = .tuple [vs ((encodeM c h l).1), vi ((encodeM c h l).2)] ∧ τ = []) := by
 refine ACalls.body Try.func15 rfl 89 [(0, .agg (avs (Codec.cells c))), (1, .agg (avs (Home.cells h))), (2, .rv (.sl 7 (l.map ItemV.cells)))] ?_
 refine AWp.hz [.run 4] 89 [(2, .rv (.sl 7 (l.map ItemV.cells))), (3, .ptr 0 0), (4, .ptr 1 0)] [(1, .box 28 (avs (Home.cells h))), (0, .box 24 (avs (Codec.cells c)))] 2 ?_
 refine AWp.seq ?_
 refine AWp.hz [.run 2, .call 10 [.agg (avs (Codec.cells c)), .agg (avs (Home.cells h))] (vi (venCheckM c h)) [] 0 (venCheckM_ok c h), .run 1] 89 [(2, .rv (.sl 7 (l.map ItemV.cells))), (3, .ptr 0 0), (4, .ptr 1 0), (8, vi (venCheckM c h))] [(1, .box 28 (avs (Home.cells h))), (0, .box 24 (avs (Codec.cells c)))] 2 ?_
 refine AWp.hz [.run 2] 89 [(2, .rv (.sl 7 (l.map ItemV.cells))), (3, .ptr 0 0), (4, .ptr 1 0), (8, vi (venCheckM c h)), (20, vb (venCheckM c h != 0))] [(1, .box 28 (avs (Home.cells h))), (0, .box 24 (avs (Codec.cells c)))] 2 ?_
 refine AWp.cnd ((venCheckM c h != 0)) (fun h1 => ?_) (fun h1 => ?_)
 ·
  refine AWp.hz [.run 3] 89 [(6, vs (⟨#[]⟩)), (7, vi (venCheckM c h))] [] 2 ?_
  refine AWp.ret ?_
  exact leafR (r := .tuple [vs (⟨#[]⟩), vi (venCheckM c h)]) (by show (.tuple [vs (⟨#[]⟩), vi (venCheckM c h)] : AV) = .tuple [vs ((encodeM c h l).1), vi ((encodeM c h l).2)]; unfold encodeM; (try rw [h1]); first | done | kernel_rfl)
 ·
  refine AWp.skip ?_
  refine AWp.hz [.run 1] 89 [(2, .rv (.sl 7 (l.map ItemV.cells))), (3, .ptr 0 0), (4, .ptr 1 0), (9, .rv (.v (.slice none 0 0)))] [(1, .box 28 (avs (Home.cells h))), (0, .box 24 (avs (Codec.cells c)))] 2 ?_
  refine AWp.seq ?_
  refine AWp.hzl [.run 1, .len ItemV.cells l 7, .run 1] 89 [(3, .ptr 0 0), (4, .ptr 1 0), (9, .rv (.v (.slice none 0 0))), (22, .rv (.sl 7 (l.map ItemV.cells))), (23, vi ((l.length : Nat) : Int)), (24, vi 0)] [(1, .box 28 (avs (Home.cells h))), (0, .box 24 (avs (Codec.cells c)))] 2 (fun hl => ?_)
  obtain ⟨hn2, -⟩ := hl
  refine AWp.nrow 9 5 1 ?_
  refine AWp.joinE1 (A := (List Int)) (fun x_ => Z 89 [(9, .sl 2)] [(2, .row false 5 1 (x_.map u8C))] 3) (fun x_ => (encodeM_L1 c h l ([])) = .inr x_) ?_ ?_
  ·
   refine AWp.block ?_
   refine AWp.loop (ι := Nat × ((List Int))) (fun x_ => Z 89 [(3, .ptr 0 0), (4, .ptr 1 0), (9, .sl 2), (22, .rv (.sl 7 (l.map ItemV.cells))), (23, vi ((l.length : Nat) : Int)), (24, vi ((x_.1 : Nat) : Int))] [(2, .row false 5 1 (x_.2.map u8C)), (1, .box 28 (avs (Home.cells h))), (0, .box 24 (avs (Codec.cells c)))] 3) (fun x_ => x_.1 ≤ l.length ∧ (encodeM_L1 c h l ([])) = loopS (encodeM_B1 c h l) x_.1 (l.length - x_.1) x_.2 ∧ x_.2.length = 3 * x_.1) (fun x_ => l.length - x_.1) (0, ([])) leZ ⟨Nat.zero_le _, rfl, rfl⟩ ?_
   rintro ⟨k1_, a1_0⟩ ⟨hk1_, hs1_, hv1_⟩
   try dsimp only at hk1_
   try dsimp only at hs1_
   try dsimp only at hv1_
   refine AWp.cv 89 [(3, .ptr 0 0), (4, .ptr 1 0), (9, .sl 2), (22, .rv (.sl 7 (l.map ItemV.cells))), (23, vi ((l.length : Nat) : Int)), (24, vi ((k1_ : Nat) : Int))] [(2, .row false 5 1 (a1_0.map u8C)), (1, .box 28 (avs (Home.cells h))), (0, .box 24 (avs (Codec.cells c)))] 3 ?_
   refine AWp.hz [.run 1] 89 [(3, .ptr 0 0), (4, .ptr 1 0), (9, .sl 2), (22, .rv (.sl 7 (l.map ItemV.cells))), (23, vi ((l.length : Nat) : Int)), (24, vi ((k1_ : Nat) : Int)), (25, vb (decide (((k1_ : Nat) : Int) < ((l.length : Nat) : Int))))] [(2, .row false 5 1 (a1_0.map u8C)), (1, .box 28 (avs (Home.cells h))), (0, .box 24 (avs (Codec.cells c)))] 3 ?_
   refine AWp.seq ?_
   refine AWp.cnd (decide (((k1_ : Nat) : Int) < ((l.length : Nat) : Int))) (fun h3 => ?_) (fun h3 => ?_)
   ·
    have h3' := of_decide_eq_true h3
    refine AWp.skip ?_
    refine AWp.seq ?_
    refine AWp.block ?_
    obtain ⟨e1_, he1_⟩ := getEx (l := l) (j := k1_) (by omega)
    refine AWp.hz [.idx ItemV.cells l 7 k1_ e1_ he1_, .run 3] 89 [(3, .ptr 0 0), (4, .ptr 1 0), (9, .sl 2), (11, .ptr 3 0), (22, .rv (.sl 7 (l.map ItemV.cells))), (23, vi ((l.length : Nat) : Int)), (24, vi ((k1_ : Nat) : Int))] [(3, .box 48 (avs (ItemV.cells e1_))), (2, .row false 5 1 (a1_0.map u8C)), (1, .box 28 (avs (Home.cells h))), (0, .box 24 (avs (Codec.cells c)))] 4 ?_
    refine AWp.hz [.run 3, .call 17 [.agg (avs (Home.cells h)), .agg [vi e1_.key.dev, vs e1_.key.cluster, vs e1_.key.attr]] (.tuple [.agg (avs (Attr.cells ((findM h e1_.key).1))), vb ((findM h e1_.key).2)]) [] 0 (findM_ok h e1_.key), .run 6] 89 [(3, .ptr 0 0), (4, .ptr 1 0), (9, .sl 2), (11, .ptr 3 0), (12, .ptr 4 0), (13, vb ((findM h e1_.key).2)), (22, .rv (.sl 7 (l.map ItemV.cells))), (23, vi ((l.length : Nat) : Int)), (24, vi ((k1_ : Nat) : Int))] [(4, .box 51 (avs (Attr.cells ((findM h e1_.key).1)))), (3, .box 48 (avs (ItemV.cells e1_))), (2, .row false 5 1 (a1_0.map u8C)), (1, .box 28 (avs (Home.cells h))), (0, .box 24 (avs (Codec.cells c)))] 5 ?_
    refine AWp.seq ?_
    refine AWp.join (Z 89 [(3, .ptr 0 0), (4, .ptr 1 0), (9, .sl 2), (11, .ptr 3 0), (12, .ptr 4 0), (22, .rv (.sl 7 (l.map ItemV.cells))), (23, vi ((l.length : Nat) : Int)), (24, vi ((k1_ : Nat) : Int)), (46, vb (!((findM h e1_.key).2) || !(ownsM h e1_.key.dev c.vendor)))] [(4, .box 51 (avs (Attr.cells ((findM h e1_.key).1)))), (3, .box 48 (avs (ItemV.cells e1_))), (2, .row false 5 1 (a1_0.map u8C)), (1, .box 28 (avs (Home.cells h))), (0, .box 24 (avs (Codec.cells c)))] 5) ?_ ?_
    ·
     refine AWp.region ?_
     refine AOps.hg [.run 3] (!((findM h e1_.key).2)) 89 (fun b_ => [(3, .ptr 0 0), (4, .ptr 1 0), (9, .sl 2), (11, .ptr 3 0), (12, .ptr 4 0), (22, .rv (.sl 7 (l.map ItemV.cells))), (23, vi ((l.length : Nat) : Int)), (24, vi ((k1_ : Nat) : Int)), (37, vb b_)]) [(4, .box 51 (avs (Attr.cells ((findM h e1_.key).1)))), (3, .box 48 (avs (ItemV.cells e1_))), (2, .row false 5 1 (a1_0.map u8C)), (1, .box 28 (avs (Home.cells h))), (0, .box 24 (avs (Codec.cells c)))] 5 (fun hg4 => ?_) (fun hg4 => ?_)
     ·
      refine AOps.he [.run 9] 89 [(3, .ptr 0 0), (4, .ptr 1 0), (9, .sl 2), (11, .ptr 3 0), (12, .ptr 4 0), (22, .rv (.sl 7 (l.map ItemV.cells))), (23, vi ((l.length : Nat) : Int)), (24, vi ((k1_ : Nat) : Int)), (46, vb true)] [(4, .box 51 (avs (Attr.cells ((findM h e1_.key).1)))), (3, .box 48 (avs (ItemV.cells e1_))), (2, .row false 5 1 (a1_0.map u8C)), (1, .box 28 (avs (Home.cells h))), (0, .box 24 (avs (Codec.cells c)))] 5 ?_
      exact leZ (by rw [hg4]; first | done | kernel_rfl)
     ·
      refine AOps.he [.run 6, .call 25 [.agg (avs (Home.cells h)), vi e1_.key.dev, vi c.vendor] (vb (ownsM h e1_.key.dev c.vendor)) [] 0 (ownsM_ok h e1_.key.dev c.vendor), .run 2] 89 [(3, .ptr 0 0), (4, .ptr 1 0), (9, .sl 2), (11, .ptr 3 0), (12, .ptr 4 0), (22, .rv (.sl 7 (l.map ItemV.cells))), (23, vi ((l.length : Nat) : Int)), (24, vi ((k1_ : Nat) : Int)), (46, vb (!(ownsM h e1_.key.dev c.vendor)))] [(4, .box 51 (avs (Attr.cells ((findM h e1_.key).1)))), (3, .box 48 (avs (ItemV.cells e1_))), (2, .row false 5 1 (a1_0.map u8C)), (1, .box 28 (avs (Home.cells h))), (0, .box 24 (avs (Codec.cells c)))] 5 ?_
      exact leZ (by rw [hg4]; first | done | kernel_rfl)
    ·
     refine AWp.cnd ((!((findM h e1_.key).2) || !(ownsM h e1_.key.dev c.vendor))) (fun h5 => ?_) (fun h5 => ?_)
     ·
      refine AWp.hz [.run 2] 89 [(6, vs (⟨#[]⟩)), (7, vi 8)] [] 5 ?_
      refine AWp.ret ?_
      have hL1_ : (encodeM_L1 c h l ([])) = .inl (⟨#[]⟩, 8) := loopS_ret hs1_ (by omega) (by unfold encodeM_B1; (try dsimp only); (try simp only [he1_]); (try rw [h3]); (try rw [h5]); first | done | kernel_rfl)
      exact leafR (r := .tuple [vs (⟨#[]⟩), vi 8]) (by show (.tuple [vs (⟨#[]⟩), vi 8] : AV) = .tuple [vs ((encodeM c h l).1), vi ((encodeM c h l).2)]; unfold encodeM; (try rw [h1]); (try rw [hL1_]); (try dsimp only); first | done | kernel_rfl)
     ·
      refine AWp.skip ?_
      refine AWp.hz [.run 2, .fnc, .callB 26 [] [] [.rv (.sl 6 (c.fields.map FieldV.cells)), .fn (.func 33) [] [.rv (.ptr [.v (.int .i64 e1_.key.dev), .v (.string e1_.key.cluster), .v (.string e1_.key.attr), .v (.int .i64 e1_.value.kind), .v (.int .i64 e1_.value.n), .v (.string e1_.value.s), .v (.int .i64 e1_.version)])]] (vi (ixEncM c.fields e1_)) (ixEncM_ok c.fields e1_), .run 1] 89 [(3, .ptr 0 0), (4, .ptr 1 0), (9, .sl 2), (11, .ptr 3 0), (12, .ptr 4 0), (14, vi (ixEncM c.fields e1_)), (22, .rv (.sl 7 (l.map ItemV.cells))), (23, vi ((l.length : Nat) : Int)), (24, vi ((k1_ : Nat) : Int))] [(4, .box 51 (avs (Attr.cells ((findM h e1_.key).1)))), (3, .box 48 (avs (ItemV.cells e1_))), (2, .row false 5 1 (a1_0.map u8C)), (1, .box 28 (avs (Home.cells h))), (0, .box 24 (avs (Codec.cells c)))] 5 ?_
      refine AWp.seq ?_
      refine AWp.hz [.run 2] 89 [(3, .ptr 0 0), (4, .ptr 1 0), (9, .sl 2), (11, .ptr 3 0), (12, .ptr 4 0), (14, vi (ixEncM c.fields e1_)), (22, .rv (.sl 7 (l.map ItemV.cells))), (23, vi ((l.length : Nat) : Int)), (24, vi ((k1_ : Nat) : Int)), (52, vb (decide (ixEncM c.fields e1_ < 0)))] [(4, .box 51 (avs (Attr.cells ((findM h e1_.key).1)))), (3, .box 48 (avs (ItemV.cells e1_))), (2, .row false 5 1 (a1_0.map u8C)), (1, .box 28 (avs (Home.cells h))), (0, .box 24 (avs (Codec.cells c)))] 5 ?_
      refine AWp.cnd (decide (ixEncM c.fields e1_ < 0)) (fun h6 => ?_) (fun h6 => ?_)
      ·
       have h6' := of_decide_eq_true h6
       refine AWp.hz [.run 2] 89 [(6, vs (⟨#[]⟩)), (7, vi 7)] [] 5 ?_
       refine AWp.ret ?_
       have hL1_ : (encodeM_L1 c h l ([])) = .inl (⟨#[]⟩, 7) := loopS_ret hs1_ (by omega) (by unfold encodeM_B1; (try dsimp only); (try simp only [he1_]); (try rw [h3]); (try rw [h5]); (try rw [h6]); first | done | kernel_rfl)
       exact leafR (r := .tuple [vs (⟨#[]⟩), vi 7]) (by show (.tuple [vs (⟨#[]⟩), vi 7] : AV) = .tuple [vs ((encodeM c h l).1), vi ((encodeM c h l).2)]; unfold encodeM; (try rw [h1]); (try rw [hL1_]); (try dsimp only); first | done | kernel_rfl)
      ·
       have h6' := of_decide_eq_false h6
       refine AWp.skip ?_
       refine AWp.seq ?_
       refine AWp.hz [.run 3, .call 18 [.agg (avs (Attr.cells ((findM h e1_.key).1))), .agg [vi e1_.value.kind, vi e1_.value.n, vs e1_.value.s]] (vi (fitsM ((findM h e1_.key).1) e1_.value)) [] 0 (fitsM_ok ((findM h e1_.key).1) e1_.value), .run 1] 89 [(3, .ptr 0 0), (4, .ptr 1 0), (9, .sl 2), (11, .ptr 3 0), (14, vi (ixEncM c.fields e1_)), (22, .rv (.sl 7 (l.map ItemV.cells))), (23, vi ((l.length : Nat) : Int)), (24, vi ((k1_ : Nat) : Int)), (57, vb (fitsM ((findM h e1_.key).1) e1_.value != 0))] [(3, .box 48 (avs (ItemV.cells e1_))), (2, .row false 5 1 (a1_0.map u8C)), (1, .box 28 (avs (Home.cells h))), (0, .box 24 (avs (Codec.cells c)))] 5 ?_
       refine AWp.cnd ((fitsM ((findM h e1_.key).1) e1_.value != 0)) (fun h7 => ?_) (fun h7 => ?_)
       ·
        refine AWp.hz [.run 2] 89 [(6, vs (⟨#[]⟩)), (7, vi 2)] [] 5 ?_
        refine AWp.ret ?_
        have hL1_ : (encodeM_L1 c h l ([])) = .inl (⟨#[]⟩, 2) := loopS_ret hs1_ (by omega) (by unfold encodeM_B1; (try dsimp only); (try simp only [he1_]); (try rw [h3]); (try rw [h5]); (try rw [h6]); (try rw [h7]); first | done | kernel_rfl)
        exact leafR (r := .tuple [vs (⟨#[]⟩), vi 2]) (by show (.tuple [vs (⟨#[]⟩), vi 2] : AV) = .tuple [vs ((encodeM c h l).1), vi ((encodeM c h l).2)]; unfold encodeM; (try rw [h1]); (try rw [hL1_]); (try dsimp only); first | done | kernel_rfl)
       ·
        refine AWp.skip ?_
        have := ixEnc_lt c.fields e1_
        have ht8 : (ixEncM c.fields e1_) = (((ixEncM c.fields e1_).toNat : Nat) : Int) := (Int.toNat_of_nonneg (by omega)).symm
        obtain ⟨e2_, he2_⟩ := getEx (l := c.fields) (j := (ixEncM c.fields e1_).toNat) (by omega)
        refine AWp.dz [.ptr 0 1, .rv (.sl 6 (c.fields.map FieldV.cells)), vi (((ixEncM c.fields e1_).toNat : Nat) : Int), .rv (.ptr (FieldV.cells e2_)), .agg (avs (FieldV.cells e2_)), .ptr 3 3, .agg [vi e1_.value.kind, vi e1_.value.n, vs e1_.value.s], .tuple [vi ((numberM e2_ e1_.value).1), vb ((numberM e2_ e1_.value).2)], .tuple [vi ((numberM e2_ e1_.value).1), vb ((numberM e2_ e1_.value).2)], vi ((numberM e2_ e1_.value).1), vb ((numberM e2_ e1_.value).2), vi ((numberM e2_ e1_.value).1), vb ((numberM e2_ e1_.value).2)] 89 [(3, .ptr 0 0), (4, .ptr 1 0), (9, .sl 2), (13, vb ((numberM e2_ e1_.value).2)), (14, vi (ixEncM c.fields e1_)), (15, vi ((numberM e2_ e1_.value).1)), (22, .rv (.sl 7 (l.map ItemV.cells))), (23, vi ((l.length : Nat) : Int)), (24, vi ((k1_ : Nat) : Int))] [(2, .row false 5 1 (a1_0.map u8C)), (1, .box 28 (avs (Home.cells h))), (0, .box 24 (avs (Codec.cells c)))] 5 ?_ ?_
        ·
         refine DSteps.cons (DStep.va) ?_
         refine DSteps.cons (DStep.va) ?_
         refine DSteps.cons ((DStep.val (v := vi (ixEncM c.fields e1_)) (by kernel_rfl) (by kernel_rfl)).cast (congrArg vi ht8)) ?_
         refine DSteps.cons (DStep.vs (by kernel_rfl) (R_indexAddrM FieldV.cells c.fields 6 ((ixEncM c.fields e1_).toNat) rfl (by kernel_rfl) (by kernel_rfl) (by kernel_rfl) he2_)) ?_
         refine DSteps.cons (DStep.va) ?_
         refine DSteps.cons (DStep.va) ?_
         refine DSteps.cons (DStep.va) ?_
         refine DSteps.cons (DStep.call rfl (by kernel_rfl) (by kernel_rfl) (by kernel_rfl) (args := [.agg (avs (FieldV.cells e2_)), .agg [vi e1_.value.kind, vi e1_.value.n, vs e1_.value.s]]) (by kernel_rfl) (by kernel_rfl) (numberM_ok e2_ e1_.value (by first | exact (num_pre (c := c) (h := h) (x := e1_) (f := e2_) (bz (by assumption)) (or_not (by assumption)).1 (bz (by assumption)) (by omega) (by assumption)).1 | exact (num_pre (c := c) (h := h) (x := e1_) (f := e2_) (bz (by assumption)) (or_not (by assumption)).1 (bz (by assumption)) (by omega) (by assumption)).2) (by first | exact (num_pre (c := c) (h := h) (x := e1_) (f := e2_) (bz (by assumption)) (or_not (by assumption)).1 (bz (by assumption)) (by omega) (by assumption)).1 | exact (num_pre (c := c) (h := h) (x := e1_) (f := e2_) (bz (by assumption)) (or_not (by assumption)).1 (bz (by assumption)) (by omega) (by assumption)).2)) (by kernel_rfl) (Nat.le_of_ble_eq_true (by kernel_rfl))) ?_
         refine DSteps.cons (DStep.va) ?_
         refine DSteps.cons (DStep.va) ?_
         refine DSteps.cons (DStep.va) ?_
         refine DSteps.cons (DStep.va) ?_
         refine DSteps.cons (DStep.va) ?_
         exact DSteps.nl
        refine AWp.seq ?_
        refine AWp.hz [.run 2] 89 [(3, .ptr 0 0), (4, .ptr 1 0), (9, .sl 2), (14, vi (ixEncM c.fields e1_)), (15, vi ((numberM e2_ e1_.value).1)), (22, .rv (.sl 7 (l.map ItemV.cells))), (23, vi ((l.length : Nat) : Int)), (24, vi ((k1_ : Nat) : Int)), (70, vb (!((numberM e2_ e1_.value).2)))] [(2, .row false 5 1 (a1_0.map u8C)), (1, .box 28 (avs (Home.cells h))), (0, .box 24 (avs (Codec.cells c)))] 5 ?_
        refine AWp.cnd (!((numberM e2_ e1_.value).2)) (fun h9 => ?_) (fun h9 => ?_)
        ·
         refine AWp.hz [.run 2] 89 [(6, vs (⟨#[]⟩)), (7, vi 2)] [] 5 ?_
         refine AWp.ret ?_
         have hL1_ : (encodeM_L1 c h l ([])) = .inl (⟨#[]⟩, 2) := loopS_ret hs1_ (by omega) (by unfold encodeM_B1; (try dsimp only); (try simp only [he1_]); (try simp only [he2_]); (try rw [h3]); (try rw [h5]); (try rw [h6]); (try rw [h7]); (try rw [h9]); first | done | kernel_rfl)
         exact leafR (r := .tuple [vs (⟨#[]⟩), vi 2]) (by show (.tuple [vs (⟨#[]⟩), vi 2] : AV) = .tuple [vs ((encodeM c h l).1), vi ((encodeM c h l).2)]; unfold encodeM; (try rw [h1]); (try rw [hL1_]); (try dsimp only); first | done | kernel_rfl)
        ·
         refine AWp.skip ?_
         have := ixEnc_lt c.fields e1_
         have ht10 : (ixEncM c.fields e1_) = (((ixEncM c.fields e1_).toNat : Nat) : Int) := (Int.toNat_of_nonneg (by omega)).symm
         refine AWp.he [.run 4, .slot 74 (vi (ixEncM c.fields e1_)) (vi (((ixEncM c.fields e1_).toNat : Nat) : Int)) (congrArg vi ht10), .idx FieldV.cells c.fields 6 ((ixEncM c.fields e1_).toNat) e2_ he2_, .run 8, .lit 5 1 (List.map u8C [IntKind.u8.wrap e2_.code, IntKind.u8.wrap (((numberM e2_ e1_.value).1).fdiv 256), IntKind.u8.wrap ((numberM e2_ e1_.value).1)]), .app u8C a1_0 ([IntKind.u8.wrap e2_.code, IntKind.u8.wrap (((numberM e2_ e1_.value).1).fdiv 256), IntKind.u8.wrap ((numberM e2_ e1_.value).1)]) 2 5 1 1 (apSz (by simp; omega)), .run 1] 89 [(3, .ptr 0 0), (4, .ptr 1 0), (9, .sl 2), (22, .rv (.sl 7 (l.map ItemV.cells))), (23, vi ((l.length : Nat) : Int)), (24, vi ((k1_ : Nat) : Int))] [(2, .row false 5 1 ((a1_0 ++ [IntKind.u8.wrap e2_.code, IntKind.u8.wrap (((numberM e2_ e1_.value).1).fdiv 256), IntKind.u8.wrap ((numberM e2_ e1_.value).1)]).map u8C)), (1, .box 28 (avs (Home.cells h))), (0, .box 24 (avs (Codec.cells c)))] 5 ?_
         refine AWp.he [.cast (vi (IntKind.i64.wrap (((k1_ : Nat) : Int) + 1))) (vi ((k1_ + 1 : Nat) : Int)) (congrArg vi (wrap_nat (by omega))), .run 1] 89 [(3, .ptr 0 0), (4, .ptr 1 0), (9, .sl 2), (22, .rv (.sl 7 (l.map ItemV.cells))), (23, vi ((l.length : Nat) : Int)), (24, vi ((k1_ + 1 : Nat) : Int))] [(2, .row false 5 1 ((a1_0 ++ [IntKind.u8.wrap e2_.code, IntKind.u8.wrap (((numberM e2_ e1_.value).1).fdiv 256), IntKind.u8.wrap ((numberM e2_ e1_.value).1)]).map u8C)), (1, .box 28 (avs (Home.cells h))), (0, .box 24 (avs (Codec.cells c)))] 5 ?_
         exact ⟨(k1_ + 1, ((a1_0 ++ [IntKind.u8.wrap e2_.code, IntKind.u8.wrap (((numberM e2_ e1_.value).1).fdiv 256), IntKind.u8.wrap ((numberM e2_ e1_.value).1)]))), ⟨by show k1_ + 1 ≤ _; omega, loopS_next hs1_ (by omega) (by unfold encodeM_B1; (try dsimp only); (try simp only [he1_]); (try simp only [he2_]); (try rw [h3]); (try rw [h5]); (try rw [h6]); (try rw [h7]); (try rw [h9]); first | done | kernel_rfl), by simp only [List.length_append, List.length_cons, List.length_nil]; omega⟩, by show _ - (k1_ + 1) < _ - k1_; omega, leG⟩
   ·
    have h3' := of_decide_eq_false h3
    refine AWp.exit ?_
    have hq1_ : (encodeM_L1 c h l ([])) = .inr (a1_0) := loopS_end hs1_ (by omega)
    exact ⟨(a1_0), hq1_, leG⟩
  ·
   rintro a1_0 hL1_
   refine AWp.rg ?_
   refine AOps.hz [.run 1] 89 [(87, .sl 2)] [(2, .row false 5 1 (a1_0.map u8C))] 3 ?_
   refine AOps.str a1_0 (.tmp 87) ?_
   refine AOps.he [.run 2] 89 [(6, vs (bytesOf a1_0)), (7, vi 0)] [] 3 ?_
   refine AWp.ret ?_
   exact leafR (r := .tuple [vs (bytesOf a1_0), vi 0]) (by show (.tuple [vs (bytesOf a1_0), vi 0] : AV) = .tuple [vs ((encodeM c h l).1), vi ((encodeM c h l).2)]; unfold encodeM; (try rw [h1]); (try rw [hL1_]); (try dsimp only); first | done | kernel_rfl)
def rnumberM_B1 (f : FieldV) (a : Attr) (v : Val) (k1_ : Nat) : Option Int :=
  (bif ((((rvalueM f a (IntKind.i64.wrap (65536 - ((k1_ : Nat) : Int)))).kind == v.kind) && (((rvalueM f a (IntKind.i64.wrap (65536 - ((k1_ : Nat) : Int)))).n == v.n) && (beqS ((rvalueM f a (IntKind.i64.wrap (65536 - ((k1_ : Nat) : Int)))).s) v.s && true))) && decide (((k1_ : Nat) : Int) > 0)) then some (IntKind.i64.wrap (65536 - ((k1_ : Nat) : Int))) else (bif (decide (((k1_ : Nat) : Int) < 32768) && (((rvalueM f a ((k1_ : Nat) : Int)).kind == v.kind) && (((rvalueM f a ((k1_ : Nat) : Int)).n == v.n) && (beqS ((rvalueM f a ((k1_ : Nat) : Int)).s) v.s && true)))) then some ((k1_ : Nat) : Int) else none))
def rnumberM_L1 (f : FieldV) (a : Attr) (v : Val) : Option Int := scanN (rnumberM_B1 f a v) 0 32769
def rnumberM (f : FieldV) (a : Attr) (v : Val) : Int :=
  (bif (a.kind == 3) then (match (f.map)[v.n.toNat]? with | some e1_ => e1_ | none => 0) else (rnumberM_L1 f a v).getD (-1))
end Go.Proofs.Ytmjimhkbehoomaa
