/- Vendor: Encode. -/
import Derived.Test.YtmjimhkbehoomaaUB6
import Derived.Test.YtmjimhkbehoomaaUQi
namespace Go.Proofs.Ytmjimhkbehoomaa
open Go Go.Av Go.Hh Go.Proofs
set_option maxRecDepth 100000
set_option maxHeartbeats 4000000
theorem or_not {a b : Bool} (h : (!a || !b) = false) : a = true ∧ b = true := by simpa using h
def encodeM_B1 (c : Codec) (h : Home) (l : List ItemV) (k1_ : Nat) (x_ : (List Int)) : Step (ByteArray × Int) ((List Int)) :=
  match x_ with
  | (a1_0) => (match (l)[k1_]? with | some e1_ => (bif (!((findM h e1_.key).2) || !(ownsM h e1_.key.dev c.vendor)) then .ret (⟨#[]⟩, 8) else (bif decide (ixEncM c.fields e1_ < 0) then .ret (⟨#[]⟩, 7) else (bif (fitsM ((findM h e1_.key).1) e1_.value != 0) then .ret (⟨#[]⟩, 2) else (match (c.fields)[(ixEncM c.fields e1_).toNat]? with | some e2_ => (bif !((numberM e2_ e1_.value).2) then .ret (⟨#[]⟩, 2) else .nxt ((a1_0 ++ [IntKind.u8.wrap e2_.code, IntKind.u8.wrap (((numberM e2_ e1_.value).1).fdiv 256), IntKind.u8.wrap ((numberM e2_ e1_.value).1)]))) | none => .nxt x_)))) | none => .nxt x_)
def encodeM_L1 (c : Codec) (h : Home) (l : List ItemV) (x_ : (List Int)) : (ByteArray × Int) ⊕ ((List Int)) := loopS (encodeM_B1 c h l) 0 l.length x_
def encodeM (c : Codec) (h : Home) (l : List ItemV) : ByteArray × Int :=
  (bif (venCheckM c h != 0) then (⟨#[]⟩, venCheckM c h) else (match (encodeM_L1 c h l ([])) with | .inl r_ => r_ | .inr (a1_0) => (bytesOf a1_0, 0)))
theorem encodeM_ok (c : Codec) (h : Home) (l : List ItemV) (hl : l.length ≤ 1000) :
 ACalls Try.prog G_ 15 [.agg (avs (Codec.cells c)), .agg (avs (Home.cells h)), .rv (.sl 7 (l.map ItemV.cells))] [] 0 (fun r τ => r = .tuple [vs ((encodeM c h l).1), vi ((encodeM c h l).2)] ∧ τ = []) := by
 refine ACalls.body Try.func15 rfl 89 [(0, .agg (avs (Codec.cells c))), (1, .agg (avs (Home.cells h))), (2, .rv (.sl 7 (l.map ItemV.cells)))] ?_
 refine AWp.hz [.run 4] 89 [(2, .rv (.sl 7 (l.map ItemV.cells))), (3, .ptr 0 0), (4, .ptr 1 0)] [(1, .box 28 (avs (Home.cells h))), (0, .box 24 (avs (Codec.cells c)))] 2 ?_
 refine AWp.seq ?_
 refine AWp.hz [.run 2, .call 10 [.agg (avs (Codec.cells c)), .agg (avs (Home.cells h))] (vi (venCheckM c h)) [] 0 (venCheckM_ok c h), .run 1] 89 [(2, .rv (.sl 7 (l.map ItemV.cells))), (3, .ptr 0 0), (4, .ptr 1 0), (8, vi (venCheckM c h))] [(1, .box 28 (avs (Home.cells h))), (0, .box 24 (avs (Codec.cells c)))] 2 ?_
 refine AWp.hz [.run 2] 89 [(2, .rv (.sl 7 (l.map ItemV.cells))), (3, .ptr 0 0), (4, .ptr 1 0), (8, vi (venCheckM c h)), (20, vb (venCheckM c h != 0))] [(1, .box 28 (avs (Home.cells h))), (0, .box 24 (avs (Codec.cells c)))] 2 ?_
 refine AWp.cnd ((venCheckM c h != 0)) (fun h1 => ?_) (fun h1 => ?_)
 ·
  refine AWp.hz [.run 3] 89 [(6, vs (⟨#[]⟩)), (7, vi (venCheckM c h))] [] 2 ?_
  refine AWp.ret ?_
  exact leafR (r := .tuple [vs (⟨#[]⟩), vi (venCheckM c h)]) (by show (.tuple [vs (⟨#[]⟩), vi (venCheckM c h)] : AV) = .tuple [vs ((encodeM c h l).1), vi ((encodeM c h l).2)]; unfold encodeM; (try rw [h1]); first | done | kernel_rfl)
 ·
  refine AWp.skip ?_
  refine AWp.hz [.run 1] 89 [(2, .rv (.sl 7 (l.map ItemV.cells))), (3, .ptr 0 0), (4, .ptr 1 0), (9, .rv (.v (.slice none 0 0)))] [(1, .box 28 (avs (Home.cells h))), (0, .box 24 (avs (Codec.cells c)))] 2 ?_
  refine AWp.seq ?_
  refine AWp.hzl [.run 1, .len ItemV.cells l 7, .run 1] 89 [(3, .ptr 0 0), (4, .ptr 1 0), (9, .rv (.v (.slice none 0 0))), (22, .rv (.sl 7 (l.map ItemV.cells))), (23, vi ((l.length : Nat) : Int)), (24, vi 0)] [(1, .box 28 (avs (Home.cells h))), (0, .box 24 (avs (Codec.cells c)))] 2 (fun hl => ?_)
  obtain ⟨hn2, -⟩ := hl
  refine AWp.nrow 9 5 1 ?_
  refine AWp.joinE1 (A := (List Int)) (fun x_ => Z 89 [(9, .sl 2)] [(2, .row false 5 1 (x_.map u8C))] 3) (fun x_ => (encodeM_L1 c h l ([])) = .inr x_) ?_ ?_
  ·
   refine AWp.block ?_
   refine AWp.loop (ι := Nat × ((List Int))) (fun x_ => Z 89 [(3, .ptr 0 0), (4, .ptr 1 0), (9, .sl 2), (22, .rv (.sl 7 (l.map ItemV.cells))), (23, vi ((l.length : Nat) : Int)), (24, vi ((x_.1 : Nat) : Int))] [(2, .row false 5 1 (x_.2.map u8C)), (1, .box 28 (avs (Home.cells h))), (0, .box 24 (avs (Codec.cells c)))] 3) (fun x_ => x_.1 ≤ l.length ∧ (encodeM_L1 c h l ([])) = loopS (encodeM_B1 c h l) x_.1 (l.length - x_.1) x_.2 ∧ x_.2.length = 3 * x_.1) (fun x_ => l.length - x_.1) (0, ([])) leZ ⟨Nat.zero_le _, rfl, rfl⟩ ?_
   rintro ⟨k1_, a1_0⟩ ⟨hk1_, hs1_, hv1_⟩
   try dsimp only at hk1_
   try dsimp only at hs1_
   try dsimp only at hv1_
   refine AWp.cv 89 [(3, .ptr 0 0), (4, .ptr 1 0), (9, .sl 2), (22, .rv (.sl 7 (l.map ItemV.cells))), (23, vi ((l.length : Nat) : Int)), (24, vi ((k1_ : Nat) : Int))] [(2, .row false 5 1 (a1_0.map u8C)), (1, .box 28 (avs (Home.cells h))), (0, .box 24 (avs (Codec.cells c)))] 3 ?_
   refine AWp.hz [.run 1] 89 [(3, .ptr 0 0), (4, .ptr 1 0), (9, .sl 2), (22, .rv (.sl 7 (l.map ItemV.cells))), (23, vi ((l.length : Nat) : Int)), (24, vi ((k1_ : Nat) : Int)), (25, vb (decide (((k1_ : Nat) : Int) < ((l.length : Nat) : Int))))] [(2, .row false 5 1 (a1_0.map u8C)), (1, .box 28 (avs (Home.cells h))), (0, .box 24 (avs (Codec.cells c)))] 3 ?_
   refine AWp.seq ?_
   refine AWp.cnd (decide (((k1_ : Nat) : Int) < ((l.length : Nat) : Int))) (fun h3 => ?_) (fun h3 => ?_)
   ·
    have h3' := of_decide_eq_true h3
    refine AWp.skip ?_
    refine AWp.seq ?_
    refine AWp.block ?_
    obtain ⟨e1_, he1_⟩ := getEx (l := l) (j := k1_) (by omega)
    refine AWp.hz [.idx ItemV.cells l 7 k1_ e1_ he1_, .run 3] 89 [(3, .ptr 0 0), (4, .ptr 1 0), (9, .sl 2), (11, .ptr 3 0), (22, .rv (.sl 7 (l.map ItemV.cells))), (23, vi ((l.length : Nat) : Int)), (24, vi ((k1_ : Nat) : Int))] [(3, .box 48 (avs (ItemV.cells e1_))), (2, .row false 5 1 (a1_0.map u8C)), (1, .box 28 (avs (Home.cells h))), (0, .box 24 (avs (Codec.cells c)))] 4 ?_
    refine AWp.hz [.run 3, .call 17 [.agg (avs (Home.cells h)), .agg [vi e1_.key.dev, vs e1_.key.cluster, vs e1_.key.attr]] (.tuple [.agg (avs (Attr.cells ((findM h e1_.key).1))), vb ((findM h e1_.key).2)]) [] 0 (findM_ok h e1_.key), .run 6] 89 [(3, .ptr 0 0), (4, .ptr 1 0), (9, .sl 2), (11, .ptr 3 0), (12, .ptr 4 0), (13, vb ((findM h e1_.key).2)), (22, .rv (.sl 7 (l.map ItemV.cells))), (23, vi ((l.length : Nat) : Int)), (24, vi ((k1_ : Nat) : Int))] [(4, .box 51 (avs (Attr.cells ((findM h e1_.key).1)))), (3, .box 48 (avs (ItemV.cells e1_))), (2, .row false 5 1 (a1_0.map u8C)), (1, .box 28 (avs (Home.cells h))), (0, .box 24 (avs (Codec.cells c)))] 5 ?_
    refine AWp.seq ?_
    refine AWp.join (Z 89 [(3, .ptr 0 0), (4, .ptr 1 0), (9, .sl 2), (11, .ptr 3 0), (12, .ptr 4 0), (22, .rv (.sl 7 (l.map ItemV.cells))), (23, vi ((l.length : Nat) : Int)), (24, vi ((k1_ : Nat) : Int)), (46, vb (!((findM h e1_.key).2) || !(ownsM h e1_.key.dev c.vendor)))] [(4, .box 51 (avs (Attr.cells ((findM h e1_.key).1)))), (3, .box 48 (avs (ItemV.cells e1_))), (2, .row false 5 1 (a1_0.map u8C)), (1, .box 28 (avs (Home.cells h))), (0, .box 24 (avs (Codec.cells c)))] 5) ?_ ?_
    ·
     refine AWp.region ?_
     refine AOps.hg [.run 3] (!((findM h e1_.key).2)) 89 (fun b_ => [(3, .ptr 0 0), (4, .ptr 1 0), (9, .sl 2), (11, .ptr 3 0), (12, .ptr 4 0), (22, .rv (.sl 7 (l.map ItemV.cells))), (23, vi ((l.length : Nat) : Int)), (24, vi ((k1_ : Nat) : Int)), (37, vb b_)]) [(4, .box 51 (avs (Attr.cells ((findM h e1_.key).1)))), (3, .box 48 (avs (ItemV.cells e1_))), (2, .row false 5 1 (a1_0.map u8C)), (1, .box 28 (avs (Home.cells h))), (0, .box 24 (avs (Codec.cells c)))] 5 (fun hg4 => ?_) (fun hg4 => ?_)
     ·
      refine AOps.he [.run 9] 89 [(3, .ptr 0 0), (4, .ptr 1 0), (9, .sl 2), (11, .ptr 3 0), (12, .ptr 4 0), (22, .rv (.sl 7 (l.map ItemV.cells))), (23, vi ((l.length : Nat) : Int)), (24, vi ((k1_ : Nat) : Int)), (46, vb true)] [(4, .box 51 (avs (Attr.cells ((findM h e1_.key).1)))), (3, .box 48 (avs (ItemV.cells e1_))), (2, .row false 5 1 (a1_0.map u8C)), (1, .box 28 (avs (Home.cells h))), (0, .box 24 (avs (Codec.cells c)))] 5 ?_
      exact leZ (by rw [hg4]; first | done | kernel_rfl)
     ·
      refine AOps.he [.run 6, .call 25 [.agg (avs (Home.cells h)), vi e1_.key.dev, vi c.vendor] (vb (ownsM h e1_.key.dev c.vendor)) [] 0 (ownsM_ok h e1_.key.dev c.vendor), .run 2] 89 [(3, .ptr 0 0), (4, .ptr 1 0), (9, .sl 2), (11, .ptr 3 0), (12, .ptr 4 0), (22, .rv (.sl 7 (l.map ItemV.cells))), (23, vi ((l.length : Nat) : Int)), (24, vi ((k1_ : Nat) : Int)), (46, vb (!(ownsM h e1_.key.dev c.vendor)))] [(4, .box 51 (avs (Attr.cells ((findM h e1_.key).1)))), (3, .box 48 (avs (ItemV.cells e1_))), (2, .row false 5 1 (a1_0.map u8C)), (1, .box 28 (avs (Home.cells h))), (0, .box 24 (avs (Codec.cells c)))] 5 ?_
      exact leZ (by rw [hg4]; first | done | kernel_rfl)
    ·
     refine AWp.cnd ((!((findM h e1_.key).2) || !(ownsM h e1_.key.dev c.vendor))) (fun h5 => ?_) (fun h5 => ?_)
     ·
      refine AWp.hz [.run 2] 89 [(6, vs (⟨#[]⟩)), (7, vi 8)] [] 5 ?_
      refine AWp.ret ?_
      have hL1_ : (encodeM_L1 c h l ([])) = .inl (⟨#[]⟩, 8) := loopS_ret hs1_ (by omega) (by unfold encodeM_B1; (try dsimp only); (try simp only [he1_]); (try rw [h3]); (try rw [h5]); first | done | kernel_rfl)
      exact leafR (r := .tuple [vs (⟨#[]⟩), vi 8]) (by show (.tuple [vs (⟨#[]⟩), vi 8] : AV) = .tuple [vs ((encodeM c h l).1), vi ((encodeM c h l).2)]; unfold encodeM; (try rw [h1]); (try rw [hL1_]); (try dsimp only); first | done | kernel_rfl)
     ·
      refine AWp.skip ?_
      refine AWp.hz [.run 2, .fnc, .callB 26 [] [] [.rv (.sl 6 (c.fields.map FieldV.cells)), .fn (.func 33) [] [.rv (.ptr [.v (.int .i64 e1_.key.dev), .v (.string e1_.key.cluster), .v (.string e1_.key.attr), .v (.int .i64 e1_.value.kind), .v (.int .i64 e1_.value.n), .v (.string e1_.value.s), .v (.int .i64 e1_.version)])]] (vi (ixEncM c.fields e1_)) (ixEncM_ok c.fields e1_), .run 1] 89 [(3, .ptr 0 0), (4, .ptr 1 0), (9, .sl 2), (11, .ptr 3 0), (12, .ptr 4 0), (14, vi (ixEncM c.fields e1_)), (22, .rv (.sl 7 (l.map ItemV.cells))), (23, vi ((l.length : Nat) : Int)), (24, vi ((k1_ : Nat) : Int))] [(4, .box 51 (avs (Attr.cells ((findM h e1_.key).1)))), (3, .box 48 (avs (ItemV.cells e1_))), (2, .row false 5 1 (a1_0.map u8C)), (1, .box 28 (avs (Home.cells h))), (0, .box 24 (avs (Codec.cells c)))] 5 ?_
      refine AWp.seq ?_
      refine AWp.hz [.run 2] 89 [(3, .ptr 0 0), (4, .ptr 1 0), (9, .sl 2), (11, .ptr 3 0), (12, .ptr 4 0), (14, vi (ixEncM c.fields e1_)), (22, .rv (.sl 7 (l.map ItemV.cells))), (23, vi ((l.length : Nat) : Int)), (24, vi ((k1_ : Nat) : Int)), (52, vb (decide (ixEncM c.fields e1_ < 0)))] [(4, .box 51 (avs (Attr.cells ((findM h e1_.key).1)))), (3, .box 48 (avs (ItemV.cells e1_))), (2, .row false 5 1 (a1_0.map u8C)), (1, .box 28 (avs (Home.cells h))), (0, .box 24 (avs (Codec.cells c)))] 5 ?_
      refine AWp.cnd (decide (ixEncM c.fields e1_ < 0)) (fun h6 => ?_) (fun h6 => ?_)
      ·
       have h6' := of_decide_eq_true h6
       refine AWp.hz [.run 2] 89 [(6, vs (⟨#[]⟩)), (7, vi 7)] [] 5 ?_
       refine AWp.ret ?_
       have hL1_ : (encodeM_L1 c h l ([])) = .inl (⟨#[]⟩, 7) := loopS_ret hs1_ (by omega) (by unfold encodeM_B1; (try dsimp only); (try simp only [he1_]); (try rw [h3]); (try rw [h5]); (try rw [h6]); first | done | kernel_rfl)
       exact leafR (r := .tuple [vs (⟨#[]⟩), vi 7]) (by show (.tuple [vs (⟨#[]⟩), vi 7] : AV) = .tuple [vs ((encodeM c h l).1), vi ((encodeM c h l).2)]; unfold encodeM; (try rw [h1]); (try rw [hL1_]); (try dsimp only); first | done | kernel_rfl)
      ·
       have h6' := of_decide_eq_false h6
       refine AWp.skip ?_
       refine AWp.seq ?_
       refine AWp.hz [.run 3, .call 18 [.agg (avs (Attr.cells ((findM h e1_.key).1))), .agg [vi e1_.value.kind, vi e1_.value.n, vs e1_.value.s]] (vi (fitsM ((findM h e1_.key).1) e1_.value)) [] 0 (fitsM_ok ((findM h e1_.key).1) e1_.value), .run 1] 89 [(3, .ptr 0 0), (4, .ptr 1 0), (9, .sl 2), (11, .ptr 3 0), (14, vi (ixEncM c.fields e1_)), (22, .rv (.sl 7 (l.map ItemV.cells))), (23, vi ((l.length : Nat) : Int)), (24, vi ((k1_ : Nat) : Int)), (57, vb (fitsM ((findM h e1_.key).1) e1_.value != 0))] [(3, .box 48 (avs (ItemV.cells e1_))), (2, .row false 5 1 (a1_0.map u8C)), (1, .box 28 (avs (Home.cells h))), (0, .box 24 (avs (Codec.cells c)))] 5 ?_
       refine AWp.cnd ((fitsM ((findM h e1_.key).1) e1_.value != 0)) (fun h7 => ?_) (fun h7 => ?_)
       ·
        refine AWp.hz [.run 2] 89 [(6, vs (⟨#[]⟩)), (7, vi 2)] [] 5 ?_
        refine AWp.ret ?_
        have hL1_ : (encodeM_L1 c h l ([])) = .inl (⟨#[]⟩, 2) := loopS_ret hs1_ (by omega) (by unfold encodeM_B1; (try dsimp only); (try simp only [he1_]); (try rw [h3]); (try rw [h5]); (try rw [h6]); (try rw [h7]); first | done | kernel_rfl)
        exact leafR (r := .tuple [vs (⟨#[]⟩), vi 2]) (by show (.tuple [vs (⟨#[]⟩), vi 2] : AV) = .tuple [vs ((encodeM c h l).1), vi ((encodeM c h l).2)]; unfold encodeM; (try rw [h1]); (try rw [hL1_]); (try dsimp only); first | done | kernel_rfl)
       ·
        refine AWp.skip ?_
        have := ixEnc_lt c.fields e1_
        have ht8 : (ixEncM c.fields e1_) = (((ixEncM c.fields e1_).toNat : Nat) : Int) := (Int.toNat_of_nonneg (by omega)).symm
        obtain ⟨e2_, he2_⟩ := getEx (l := c.fields) (j := (ixEncM c.fields e1_).toNat) (by omega)
        refine AWp.dz [.ptr 0 1, .rv (.sl 6 (c.fields.map FieldV.cells)), vi (((ixEncM c.fields e1_).toNat : Nat) : Int), .rv (.ptr (FieldV.cells e2_)), .agg (avs (FieldV.cells e2_)), .ptr 3 3, .agg [vi e1_.value.kind, vi e1_.value.n, vs e1_.value.s], .tuple [vi ((numberM e2_ e1_.value).1), vb ((numberM e2_ e1_.value).2)], .tuple [vi ((numberM e2_ e1_.value).1), vb ((numberM e2_ e1_.value).2)], vi ((numberM e2_ e1_.value).1), vb ((numberM e2_ e1_.value).2), vi ((numberM e2_ e1_.value).1), vb ((numberM e2_ e1_.value).2)] 89 [(3, .ptr 0 0), (4, .ptr 1 0), (9, .sl 2), (13, vb ((numberM e2_ e1_.value).2)), (14, vi (ixEncM c.fields e1_)), (15, vi ((numberM e2_ e1_.value).1)), (22, .rv (.sl 7 (l.map ItemV.cells))), (23, vi ((l.length : Nat) : Int)), (24, vi ((k1_ : Nat) : Int))] [(2, .row false 5 1 (a1_0.map u8C)), (1, .box 28 (avs (Home.cells h))), (0, .box 24 (avs (Codec.cells c)))] 5 ?_ ?_
        ·
         refine DSteps.cons (DStep.va) ?_
         refine DSteps.cons (DStep.va) ?_
         refine DSteps.cons ((DStep.val (v := vi (ixEncM c.fields e1_)) (by kernel_rfl) (by kernel_rfl)).cast (congrArg vi ht8)) ?_
         refine DSteps.cons (DStep.vs (by kernel_rfl) (R_indexAddrM FieldV.cells c.fields 6 ((ixEncM c.fields e1_).toNat) rfl (by kernel_rfl) (by kernel_rfl) (by kernel_rfl) he2_)) ?_
         refine DSteps.cons (DStep.va) ?_
         refine DSteps.cons (DStep.va) ?_
         refine DSteps.cons (DStep.va) ?_
         refine DSteps.cons (DStep.call rfl (by kernel_rfl) (by kernel_rfl) (by kernel_rfl) (args := [.agg (avs (FieldV.cells e2_)), .agg [vi e1_.value.kind, vi e1_.value.n, vs e1_.value.s]]) (by kernel_rfl) (by kernel_rfl) (numberM_ok e2_ e1_.value (by first | exact (num_pre (c := c) (h := h) (x := e1_) (f := e2_) (bz (by assumption)) (or_not (by assumption)).1 (bz (by assumption)) (by omega) (by assumption)).1 | exact (num_pre (c := c) (h := h) (x := e1_) (f := e2_) (bz (by assumption)) (or_not (by assumption)).1 (bz (by assumption)) (by omega) (by assumption)).2) (by first | exact (num_pre (c := c) (h := h) (x := e1_) (f := e2_) (bz (by assumption)) (or_not (by assumption)).1 (bz (by assumption)) (by omega) (by assumption)).1 | exact (num_pre (c := c) (h := h) (x := e1_) (f := e2_) (bz (by assumption)) (or_not (by assumption)).1 (bz (by assumption)) (by omega) (by assumption)).2)) (by kernel_rfl) (Nat.le_of_ble_eq_true (by kernel_rfl))) ?_
         refine DSteps.cons (DStep.va) ?_
         refine DSteps.cons (DStep.va) ?_
         refine DSteps.cons (DStep.va) ?_
         refine DSteps.cons (DStep.va) ?_
         refine DSteps.cons (DStep.va) ?_
         exact DSteps.nl
        refine AWp.seq ?_
        refine AWp.hz [.run 2] 89 [(3, .ptr 0 0), (4, .ptr 1 0), (9, .sl 2), (14, vi (ixEncM c.fields e1_)), (15, vi ((numberM e2_ e1_.value).1)), (22, .rv (.sl 7 (l.map ItemV.cells))), (23, vi ((l.length : Nat) : Int)), (24, vi ((k1_ : Nat) : Int)), (70, vb (!((numberM e2_ e1_.value).2)))] [(2, .row false 5 1 (a1_0.map u8C)), (1, .box 28 (avs (Home.cells h))), (0, .box 24 (avs (Codec.cells c)))] 5 ?_
        refine AWp.cnd (!((numberM e2_ e1_.value).2)) (fun h9 => ?_) (fun h9 => ?_)
        ·
         refine AWp.hz [.run 2] 89 [(6, vs (⟨#[]⟩)), (7, vi 2)] [] 5 ?_
         refine AWp.ret ?_
         have hL1_ : (encodeM_L1 c h l ([])) = .inl (⟨#[]⟩, 2) := loopS_ret hs1_ (by omega) (by unfold encodeM_B1; (try dsimp only); (try simp only [he1_]); (try simp only [he2_]); (try rw [h3]); (try rw [h5]); (try rw [h6]); (try rw [h7]); (try rw [h9]); first | done | kernel_rfl)
         exact leafR (r := .tuple [vs (⟨#[]⟩), vi 2]) (by show (.tuple [vs (⟨#[]⟩), vi 2] : AV) = .tuple [vs ((encodeM c h l).1), vi ((encodeM c h l).2)]; unfold encodeM; (try rw [h1]); (try rw [hL1_]); (try dsimp only); first | done | kernel_rfl)
        ·
         refine AWp.skip ?_
         have := ixEnc_lt c.fields e1_
         have ht10 : (ixEncM c.fields e1_) = (((ixEncM c.fields e1_).toNat : Nat) : Int) := (Int.toNat_of_nonneg (by omega)).symm
         refine AWp.he [.run 4, .slot 74 (vi (ixEncM c.fields e1_)) (vi (((ixEncM c.fields e1_).toNat : Nat) : Int)) (congrArg vi ht10), .idx FieldV.cells c.fields 6 ((ixEncM c.fields e1_).toNat) e2_ he2_, .run 8, .lit 5 1 (List.map u8C [IntKind.u8.wrap e2_.code, IntKind.u8.wrap (((numberM e2_ e1_.value).1).fdiv 256), IntKind.u8.wrap ((numberM e2_ e1_.value).1)]), .app u8C a1_0 ([IntKind.u8.wrap e2_.code, IntKind.u8.wrap (((numberM e2_ e1_.value).1).fdiv 256), IntKind.u8.wrap ((numberM e2_ e1_.value).1)]) 2 5 1 1 (apSz (by simp; omega)), .run 1] 89 [(3, .ptr 0 0), (4, .ptr 1 0), (9, .sl 2), (22, .rv (.sl 7 (l.map ItemV.cells))), (23, vi ((l.length : Nat) : Int)), (24, vi ((k1_ : Nat) : Int))] [(2, .row false 5 1 ((a1_0 ++ [IntKind.u8.wrap e2_.code, IntKind.u8.wrap (((numberM e2_ e1_.value).1).fdiv 256), IntKind.u8.wrap ((numberM e2_ e1_.value).1)]).map u8C)), (1, .box 28 (avs (Home.cells h))), (0, .box 24 (avs (Codec.cells c)))] 5 ?_
         refine AWp.he [.cast (vi (IntKind.i64.wrap (((k1_ : Nat) : Int) + 1))) (vi ((k1_ + 1 : Nat) : Int)) (congrArg vi (wrap_nat (by omega))), .run 1] 89 [(3, .ptr 0 0), (4, .ptr 1 0), (9, .sl 2), (22, .rv (.sl 7 (l.map ItemV.cells))), (23, vi ((l.length : Nat) : Int)), (24, vi ((k1_ + 1 : Nat) : Int))] [(2, .row false 5 1 ((a1_0 ++ [IntKind.u8.wrap e2_.code, IntKind.u8.wrap (((numberM e2_ e1_.value).1).fdiv 256), IntKind.u8.wrap ((numberM e2_ e1_.value).1)]).map u8C)), (1, .box 28 (avs (Home.cells h))), (0, .box 24 (avs (Codec.cells c)))] 5 ?_
         exact ⟨(k1_ + 1, ((a1_0 ++ [IntKind.u8.wrap e2_.code, IntKind.u8.wrap (((numberM e2_ e1_.value).1).fdiv 256), IntKind.u8.wrap ((numberM e2_ e1_.value).1)]))), ⟨by show k1_ + 1 ≤ _; omega, loopS_next hs1_ (by omega) (by unfold encodeM_B1; (try dsimp only); (try simp only [he1_]); (try simp only [he2_]); (try rw [h3]); (try rw [h5]); (try rw [h6]); (try rw [h7]); (try rw [h9]); first | done | kernel_rfl), by simp only [List.length_append, List.length_cons, List.length_nil]; omega⟩, by show _ - (k1_ + 1) < _ - k1_; omega, leG⟩
   ·
    have h3' := of_decide_eq_false h3
    refine AWp.exit ?_
    have hq1_ : (encodeM_L1 c h l ([])) = .inr (a1_0) := loopS_end hs1_ (by omega)
    exact ⟨(a1_0), hq1_, leG⟩
  ·
   rintro a1_0 hL1_
   refine AWp.rg ?_
   refine AOps.hz [.run 1] 89 [(87, .sl 2)] [(2, .row false 5 1 (a1_0.map u8C))] 3 ?_
   refine AOps.str a1_0 (.tmp 87) ?_
   refine AOps.he [.run 2] 89 [(6, vs (bytesOf a1_0)), (7, vi 0)] [] 3 ?_
   refine AWp.ret ?_
   exact leafR (r := .tuple [vs (bytesOf a1_0), vi 0]) (by show (.tuple [vs (bytesOf a1_0), vi 0] : AV) = .tuple [vs ((encodeM c h l).1), vi ((encodeM c h l).2)]; unfold encodeM; (try rw [h1]); (try rw [hL1_]); (try dsimp only); first | done | kernel_rfl)
def rnumberM_B1 (f : FieldV) (a : Attr) (v : Val) (k1_ : Nat) : Option Int :=
  (bif ((((rvalueM f a (IntKind.i64.wrap (65536 - ((k1_ : Nat) : Int)))).kind == v.kind) && (((rvalueM f a (IntKind.i64.wrap (65536 - ((k1_ : Nat) : Int)))).n == v.n) && (beqS ((rvalueM f a (IntKind.i64.wrap (65536 - ((k1_ : Nat) : Int)))).s) v.s && true))) && decide (((k1_ : Nat) : Int) > 0)) then some (IntKind.i64.wrap (65536 - ((k1_ : Nat) : Int))) else (bif (decide (((k1_ : Nat) : Int) < 32768) && (((rvalueM f a ((k1_ : Nat) : Int)).kind == v.kind) && (((rvalueM f a ((k1_ : Nat) : Int)).n == v.n) && (beqS ((rvalueM f a ((k1_ : Nat) : Int)).s) v.s && true)))) then some ((k1_ : Nat) : Int) else none))
def rnumberM_L1 (f : FieldV) (a : Attr) (v : Val) : Option Int := scanN (rnumberM_B1 f a v) 0 32769
def rnumberM (f : FieldV) (a : Attr) (v : Val) : Int :=
  (bif (a.kind == 3) then (match (f.map)[v.n.toNat]? with | some e1_ => e1_ | none => 0) else (rnumberM_L1 f a v).getD (-1))
theorem rnumberM_ok (f : FieldV) (a : Attr) (v : Val) (he : a.kind = 3 → 0 ≤ v.n ∧ v.n < (f.map.length : Int)) :
 ACalls Try.prog G_ 35 [.agg (avs (FieldV.cells f)), .agg (avs (Attr.cells a)), .agg (avs (Val.cells v))] [] 0 (fun r τ => r = vi (rnumberM f a v) ∧ τ = []) := by
 refine ACalls.body Try.func35 rfl 45 [(0, .agg (avs (FieldV.cells f))), (1, .agg (avs (Attr.cells a))), (2, .agg (avs (Val.cells v)))] ?_
 refine AWp.hz [.run 4] 45 [(3, .ptr 0 0), (4, .ptr 1 0), (5, .ptr 2 0)] [(2, .box 46 (avs (Val.cells v))), (1, .box 51 (avs (Attr.cells a))), (0, .box 64 (avs (FieldV.cells f)))] 3 ?_
 refine AWp.seq ?_
 refine AWp.hz [.run 3] 45 [(3, .ptr 0 0), (4, .ptr 1 0), (5, .ptr 2 0), (10, vb (a.kind == 3))] [(2, .box 46 (avs (Val.cells v))), (1, .box 51 (avs (Attr.cells a))), (0, .box 64 (avs (FieldV.cells f)))] 3 ?_
 refine AWp.cnd ((a.kind == 3)) (fun h1 => ?_) (fun h1 => ?_)
 ·
  have := he (eq_of_beq (by assumption))
  have ht2 : v.n = ((v.n.toNat : Nat) : Int) := (Int.toNat_of_nonneg (by omega)).symm
  obtain ⟨e1_, he1_⟩ := getEx (l := f.map) (j := v.n.toNat) (by omega)
  refine AWp.hz [.run 4, .slot 14 (vi v.n) (vi ((v.n.toNat : Nat) : Int)) (congrArg vi ht2), .idx intC f.map 1 v.n.toNat e1_ he1_, .run 2] 45 [(6, vi e1_)] [] 3 ?_
  refine AWp.ret ?_
  exact leafR (r := vi e1_) (by unfold rnumberM; (try simp only [he1_]); (try rw [h1]); first | done | kernel_rfl)
 ·
  refine AWp.skip ?_
  refine AWp.seq ?_
  refine AWp.hz [.run 1] 45 [(3, .ptr 0 0), (4, .ptr 1 0), (5, .ptr 2 0), (7, vi 0)] [(2, .box 46 (avs (Val.cells v))), (1, .box 51 (avs (Attr.cells a))), (0, .box 64 (avs (FieldV.cells f)))] 3 ?_
  refine AWp.block ?_
  refine AWp.loop (ι := Nat) (fun k1_ => Z 45 [(3, .ptr 0 0), (4, .ptr 1 0), (5, .ptr 2 0), (7, vi ((k1_ : Nat) : Int))] [(2, .box 46 (avs (Val.cells v))), (1, .box 51 (avs (Attr.cells a))), (0, .box 64 (avs (FieldV.cells f)))] 3) (fun k1_ => k1_ ≤ 32769 ∧ rnumberM_L1 f a v = scanN (rnumberM_B1 f a v) k1_ (32769 - k1_)) (fun k1_ => 32769 - k1_) 0 leZ ⟨Nat.zero_le _, rfl⟩ ?_
  intro k1_ ⟨hk1_, hs1_⟩
  refine AWp.seq ?_
  refine AWp.hz [.run 2] 45 [(3, .ptr 0 0), (4, .ptr 1 0), (5, .ptr 2 0), (7, vi ((k1_ : Nat) : Int)), (18, vb (decide (((k1_ : Nat) : Int) ≤ 32768)))] [(2, .box 46 (avs (Val.cells v))), (1, .box 51 (avs (Attr.cells a))), (0, .box 64 (avs (FieldV.cells f)))] 3 ?_
  refine AWp.cnd (decide (((k1_ : Nat) : Int) ≤ 32768)) (fun h3 => ?_) (fun h3 => ?_)
  ·
   have h3' := of_decide_eq_true h3
   refine AWp.skip ?_
   refine AWp.seq ?_
   refine AWp.block ?_
   refine AWp.seq ?_
   refine AWp.split ((((rvalueM f a (IntKind.i64.wrap (65536 - ((k1_ : Nat) : Int)))).kind == v.kind) && (((rvalueM f a (IntKind.i64.wrap (65536 - ((k1_ : Nat) : Int)))).n == v.n) && (beqS ((rvalueM f a (IntKind.i64.wrap (65536 - ((k1_ : Nat) : Int)))).s) v.s && true)))) (fun h4 => ?_) (fun h4 => ?_)
   ·
    have h4l := and_tl h4
    have h4l' := beq_t h4l
    have h4r := and_tr h4
    have h4rl := and_tl h4r
    have h4rl' := beq_t h4rl
    have h4rr := and_tr h4r
    refine AWp.dz [.agg (avs (FieldV.cells f)), .agg (avs (Attr.cells a)), vi ((k1_ : Nat) : Int), vi (IntKind.i64.wrap (65536 - ((k1_ : Nat) : Int))), .agg (avs (Val.cells (rvalueM f a (IntKind.i64.wrap (65536 - ((k1_ : Nat) : Int)))))), .agg (avs (Val.cells v)), vb true, vb true, vi ((k1_ : Nat) : Int), vb (decide (((k1_ : Nat) : Int) > 0)), vb (decide (((k1_ : Nat) : Int) > 0))] 45 [(3, .ptr 0 0), (4, .ptr 1 0), (5, .ptr 2 0), (7, vi ((k1_ : Nat) : Int)), (31, vb (decide (((k1_ : Nat) : Int) > 0)))] [(2, .box 46 (avs (Val.cells v))), (1, .box 51 (avs (Attr.cells a))), (0, .box 64 (avs (FieldV.cells f)))] 3 ?_ ?_
    ·
     refine DSteps.cons (DStep.va) ?_
     refine DSteps.cons (DStep.va) ?_
     refine DSteps.cons (DStep.va) ?_
     refine DSteps.cons (DStep.va) ?_
     refine DSteps.cons (DStep.call rfl (by kernel_rfl) (by kernel_rfl) (by kernel_rfl) (args := [.agg (avs (FieldV.cells f)), .agg (avs (Attr.cells a)), vi (IntKind.i64.wrap (65536 - ((k1_ : Nat) : Int)))]) (by kernel_rfl) (by kernel_rfl) (rvalueM_ok f a (IntKind.i64.wrap (65536 - ((k1_ : Nat) : Int)))) (by kernel_rfl) (Nat.le_of_ble_eq_true (by kernel_rfl))) ?_
     refine DSteps.cons (DStep.va) ?_
     refine DSteps.cons ((DStep.val (v := vb (((rvalueM f a (IntKind.i64.wrap (65536 - ((k1_ : Nat) : Int)))).kind == v.kind) && (((rvalueM f a (IntKind.i64.wrap (65536 - ((k1_ : Nat) : Int)))).n == v.n) && (beqS ((rvalueM f a (IntKind.i64.wrap (65536 - ((k1_ : Nat) : Int)))).s) v.s && true)))) (by kernel_rfl) (by kernel_rfl)).cast (congrArg vb h4)) ?_
     refine DSteps.cons (DStep.va) ?_
     refine DSteps.cons (DStep.va) ?_
     refine DSteps.cons (DStep.va) ?_
     refine DSteps.cons (DStep.va) ?_
     exact DSteps.nl
    refine AWp.cnd (decide (((k1_ : Nat) : Int) > 0)) (fun h5 => ?_) (fun h5 => ?_)
    ·
     have h5' := of_decide_eq_true h5
     refine AWp.hz [.run 3] 45 [(6, vi (IntKind.i64.wrap (65536 - ((k1_ : Nat) : Int))))] [] 3 ?_
     refine AWp.ret ?_
     have hL1_ : rnumberM_L1 f a v = some (IntKind.i64.wrap (65536 - ((k1_ : Nat) : Int))) := scanN_some hs1_ (by omega) (by unfold rnumberM_B1; (try rw [h3]); (try rw [h4]); (try rw [h5]); first | done | kernel_rfl)
     exact leafR (r := vi (IntKind.i64.wrap (65536 - ((k1_ : Nat) : Int)))) (by unfold rnumberM; (try rw [h1]); (try rw [hL1_]); first | done | kernel_rfl)
    ·
     have h5' := of_decide_eq_false h5
     refine AWp.skip ?_
     refine AWp.split (decide (((k1_ : Nat) : Int) < 32768)) (fun h6 => ?_) (fun h6 => ?_)
     ·
      have h6' := of_decide_eq_true h6
      refine AWp.dz [vi ((k1_ : Nat) : Int), vb true, vb true, .agg (avs (FieldV.cells f)), .agg (avs (Attr.cells a)), vi ((k1_ : Nat) : Int), .agg (avs (Val.cells (rvalueM f a ((k1_ : Nat) : Int)))), .agg (avs (Val.cells v)), vb (((rvalueM f a ((k1_ : Nat) : Int)).kind == v.kind) && (((rvalueM f a ((k1_ : Nat) : Int)).n == v.n) && (beqS ((rvalueM f a ((k1_ : Nat) : Int)).s) v.s && true))), vb (((rvalueM f a ((k1_ : Nat) : Int)).kind == v.kind) && (((rvalueM f a ((k1_ : Nat) : Int)).n == v.n) && (beqS ((rvalueM f a ((k1_ : Nat) : Int)).s) v.s && true)))] 45 [(3, .ptr 0 0), (4, .ptr 1 0), (5, .ptr 2 0), (7, vi ((k1_ : Nat) : Int)), (43, vb (((rvalueM f a ((k1_ : Nat) : Int)).kind == v.kind) && (((rvalueM f a ((k1_ : Nat) : Int)).n == v.n) && (beqS ((rvalueM f a ((k1_ : Nat) : Int)).s) v.s && true))))] [(2, .box 46 (avs (Val.cells v))), (1, .box 51 (avs (Attr.cells a))), (0, .box 64 (avs (FieldV.cells f)))] 3 ?_ ?_
      ·
       refine DSteps.cons (DStep.va) ?_
       refine DSteps.cons ((DStep.val (v := vb (decide (((k1_ : Nat) : Int) < 32768))) (by kernel_rfl) (by kernel_rfl)).cast (congrArg vb h6)) ?_
       refine DSteps.cons (DStep.va) ?_
       refine DSteps.cons (DStep.va) ?_
       refine DSteps.cons (DStep.va) ?_
       refine DSteps.cons (DStep.va) ?_
       refine DSteps.cons (DStep.call rfl (by kernel_rfl) (by kernel_rfl) (by kernel_rfl) (args := [.agg (avs (FieldV.cells f)), .agg (avs (Attr.cells a)), vi ((k1_ : Nat) : Int)]) (by kernel_rfl) (by kernel_rfl) (rvalueM_ok f a ((k1_ : Nat) : Int)) (by kernel_rfl) (Nat.le_of_ble_eq_true (by kernel_rfl))) ?_
       refine DSteps.cons (DStep.va) ?_
       refine DSteps.cons (DStep.va) ?_
       refine DSteps.cons (DStep.va) ?_
       exact DSteps.nl
      refine AWp.cnd ((((rvalueM f a ((k1_ : Nat) : Int)).kind == v.kind) && (((rvalueM f a ((k1_ : Nat) : Int)).n == v.n) && (beqS ((rvalueM f a ((k1_ : Nat) : Int)).s) v.s && true)))) (fun h7 => ?_) (fun h7 => ?_)
      ·
       have h7l := and_tl h7
       have h7l' := beq_t h7l
       have h7r := and_tr h7
       have h7rl := and_tl h7r
       have h7rl' := beq_t h7rl
       have h7rr := and_tr h7r
       refine AWp.hz [.run 2] 45 [(6, vi ((k1_ : Nat) : Int))] [] 3 ?_
       refine AWp.ret ?_
       have hL1_ : rnumberM_L1 f a v = some ((k1_ : Nat) : Int) := scanN_some hs1_ (by omega) (by unfold rnumberM_B1; (try rw [h3]); (try rw [h4]); (try rw [h5]); (try rw [h6]); (try rw [h7]); first | done | kernel_rfl)
       exact leafR (r := vi ((k1_ : Nat) : Int)) (by unfold rnumberM; (try rw [h1]); (try rw [hL1_]); first | done | kernel_rfl)
      ·
       refine AWp.skip ?_
       refine AWp.he [.run 1, .cast (vi (IntKind.i64.wrap (((k1_ : Nat) : Int) + 1))) (vi ((k1_ + 1 : Nat) : Int)) (congrArg vi (wrap_nat (by omega))), .run 1] 45 [(3, .ptr 0 0), (4, .ptr 1 0), (5, .ptr 2 0), (7, vi ((k1_ + 1 : Nat) : Int))] [(2, .box 46 (avs (Val.cells v))), (1, .box 51 (avs (Attr.cells a))), (0, .box 64 (avs (FieldV.cells f)))] 3 ?_
       exact ⟨k1_ + 1, ⟨by omega, scanN_none hs1_ (by omega) (by unfold rnumberM_B1; (try rw [h3]); (try rw [h4]); (try rw [h5]); (try rw [h6]); (try rw [h7]); first | done | kernel_rfl)⟩, by omega, leG⟩
     ·
      have h6' := of_decide_eq_false h6
      refine AWp.dz [vi ((k1_ : Nat) : Int), vb false, vb false, .tuple [], .tuple [], .tuple [], .tuple [], .tuple [], .tuple [], vb false] 45 [(3, .ptr 0 0), (4, .ptr 1 0), (5, .ptr 2 0), (7, vi ((k1_ : Nat) : Int)), (43, vb false)] [(2, .box 46 (avs (Val.cells v))), (1, .box 51 (avs (Attr.cells a))), (0, .box 64 (avs (FieldV.cells f)))] 3 ?_ ?_
      ·
       refine DSteps.cons (DStep.va) ?_
       refine DSteps.cons ((DStep.val (v := vb (decide (((k1_ : Nat) : Int) < 32768))) (by kernel_rfl) (by kernel_rfl)).cast (congrArg vb h6)) ?_
       refine DSteps.cons (DStep.va) ?_
       refine DSteps.cons (DStep.skip (by kernel_rfl)) ?_
       refine DSteps.cons (DStep.skip (by kernel_rfl)) ?_
       refine DSteps.cons (DStep.skip (by kernel_rfl)) ?_
       refine DSteps.cons (DStep.skip (by kernel_rfl)) ?_
       refine DSteps.cons (DStep.skip (by kernel_rfl)) ?_
       refine DSteps.cons (DStep.skip (by kernel_rfl)) ?_
       refine DSteps.cons (DStep.va) ?_
       exact DSteps.nl
      refine AWp.cndF ?_
      refine AWp.skip ?_
      refine AWp.he [.run 1, .cast (vi (IntKind.i64.wrap (((k1_ : Nat) : Int) + 1))) (vi ((k1_ + 1 : Nat) : Int)) (congrArg vi (wrap_nat (by omega))), .run 1] 45 [(3, .ptr 0 0), (4, .ptr 1 0), (5, .ptr 2 0), (7, vi ((k1_ + 1 : Nat) : Int))] [(2, .box 46 (avs (Val.cells v))), (1, .box 51 (avs (Attr.cells a))), (0, .box 64 (avs (FieldV.cells f)))] 3 ?_
      exact ⟨k1_ + 1, ⟨by omega, scanN_none hs1_ (by omega) (by unfold rnumberM_B1; (try rw [h3]); (try rw [h4]); (try rw [h5]); (try rw [h6]); first | done | kernel_rfl)⟩, by omega, leG⟩
   ·
    refine AWp.dz [.agg (avs (FieldV.cells f)), .agg (avs (Attr.cells a)), vi ((k1_ : Nat) : Int), vi (IntKind.i64.wrap (65536 - ((k1_ : Nat) : Int))), .agg (avs (Val.cells (rvalueM f a (IntKind.i64.wrap (65536 - ((k1_ : Nat) : Int)))))), .agg (avs (Val.cells v)), vb false, vb false, .tuple [], .tuple [], vb false] 45 [(3, .ptr 0 0), (4, .ptr 1 0), (5, .ptr 2 0), (7, vi ((k1_ : Nat) : Int)), (31, vb false)] [(2, .box 46 (avs (Val.cells v))), (1, .box 51 (avs (Attr.cells a))), (0, .box 64 (avs (FieldV.cells f)))] 3 ?_ ?_
    ·
     refine DSteps.cons (DStep.va) ?_
     refine DSteps.cons (DStep.va) ?_
     refine DSteps.cons (DStep.va) ?_
     refine DSteps.cons (DStep.va) ?_
     refine DSteps.cons (DStep.call rfl (by kernel_rfl) (by kernel_rfl) (by kernel_rfl) (args := [.agg (avs (FieldV.cells f)), .agg (avs (Attr.cells a)), vi (IntKind.i64.wrap (65536 - ((k1_ : Nat) : Int)))]) (by kernel_rfl) (by kernel_rfl) (rvalueM_ok f a (IntKind.i64.wrap (65536 - ((k1_ : Nat) : Int)))) (by kernel_rfl) (Nat.le_of_ble_eq_true (by kernel_rfl))) ?_
     refine DSteps.cons (DStep.va) ?_
     refine DSteps.cons ((DStep.val (v := vb (((rvalueM f a (IntKind.i64.wrap (65536 - ((k1_ : Nat) : Int)))).kind == v.kind) && (((rvalueM f a (IntKind.i64.wrap (65536 - ((k1_ : Nat) : Int)))).n == v.n) && (beqS ((rvalueM f a (IntKind.i64.wrap (65536 - ((k1_ : Nat) : Int)))).s) v.s && true)))) (by kernel_rfl) (by kernel_rfl)).cast (congrArg vb h4)) ?_
     refine DSteps.cons (DStep.va) ?_
     refine DSteps.cons (DStep.skip (by kernel_rfl)) ?_
     refine DSteps.cons (DStep.skip (by kernel_rfl)) ?_
     refine DSteps.cons (DStep.va) ?_
     exact DSteps.nl
    refine AWp.cndF ?_
    refine AWp.skip ?_
    refine AWp.split (decide (((k1_ : Nat) : Int) < 32768)) (fun h8 => ?_) (fun h8 => ?_)
    ·
     have h8' := of_decide_eq_true h8
     refine AWp.dz [vi ((k1_ : Nat) : Int), vb true, vb true, .agg (avs (FieldV.cells f)), .agg (avs (Attr.cells a)), vi ((k1_ : Nat) : Int), .agg (avs (Val.cells (rvalueM f a ((k1_ : Nat) : Int)))), .agg (avs (Val.cells v)), vb (((rvalueM f a ((k1_ : Nat) : Int)).kind == v.kind) && (((rvalueM f a ((k1_ : Nat) : Int)).n == v.n) && (beqS ((rvalueM f a ((k1_ : Nat) : Int)).s) v.s && true))), vb (((rvalueM f a ((k1_ : Nat) : Int)).kind == v.kind) && (((rvalueM f a ((k1_ : Nat) : Int)).n == v.n) && (beqS ((rvalueM f a ((k1_ : Nat) : Int)).s) v.s && true)))] 45 [(3, .ptr 0 0), (4, .ptr 1 0), (5, .ptr 2 0), (7, vi ((k1_ : Nat) : Int)), (43, vb (((rvalueM f a ((k1_ : Nat) : Int)).kind == v.kind) && (((rvalueM f a ((k1_ : Nat) : Int)).n == v.n) && (beqS ((rvalueM f a ((k1_ : Nat) : Int)).s) v.s && true))))] [(2, .box 46 (avs (Val.cells v))), (1, .box 51 (avs (Attr.cells a))), (0, .box 64 (avs (FieldV.cells f)))] 3 ?_ ?_
     ·
      refine DSteps.cons (DStep.va) ?_
      refine DSteps.cons ((DStep.val (v := vb (decide (((k1_ : Nat) : Int) < 32768))) (by kernel_rfl) (by kernel_rfl)).cast (congrArg vb h8)) ?_
      refine DSteps.cons (DStep.va) ?_
      refine DSteps.cons (DStep.va) ?_
      refine DSteps.cons (DStep.va) ?_
      refine DSteps.cons (DStep.va) ?_
      refine DSteps.cons (DStep.call rfl (by kernel_rfl) (by kernel_rfl) (by kernel_rfl) (args := [.agg (avs (FieldV.cells f)), .agg (avs (Attr.cells a)), vi ((k1_ : Nat) : Int)]) (by kernel_rfl) (by kernel_rfl) (rvalueM_ok f a ((k1_ : Nat) : Int)) (by kernel_rfl) (Nat.le_of_ble_eq_true (by kernel_rfl))) ?_
      refine DSteps.cons (DStep.va) ?_
      refine DSteps.cons (DStep.va) ?_
      refine DSteps.cons (DStep.va) ?_
      exact DSteps.nl
     refine AWp.cnd ((((rvalueM f a ((k1_ : Nat) : Int)).kind == v.kind) && (((rvalueM f a ((k1_ : Nat) : Int)).n == v.n) && (beqS ((rvalueM f a ((k1_ : Nat) : Int)).s) v.s && true)))) (fun h9 => ?_) (fun h9 => ?_)
     ·
      have h9l := and_tl h9
      have h9l' := beq_t h9l
      have h9r := and_tr h9
      have h9rl := and_tl h9r
      have h9rl' := beq_t h9rl
      have h9rr := and_tr h9r
      refine AWp.hz [.run 2] 45 [(6, vi ((k1_ : Nat) : Int))] [] 3 ?_
      refine AWp.ret ?_
      have hL1_ : rnumberM_L1 f a v = some ((k1_ : Nat) : Int) := scanN_some hs1_ (by omega) (by unfold rnumberM_B1; (try rw [h3]); (try rw [h4]); (try rw [h8]); (try rw [h9]); first | done | kernel_rfl)
      exact leafR (r := vi ((k1_ : Nat) : Int)) (by unfold rnumberM; (try rw [h1]); (try rw [hL1_]); first | done | kernel_rfl)
     ·
      refine AWp.skip ?_
      refine AWp.he [.run 1, .cast (vi (IntKind.i64.wrap (((k1_ : Nat) : Int) + 1))) (vi ((k1_ + 1 : Nat) : Int)) (congrArg vi (wrap_nat (by omega))), .run 1] 45 [(3, .ptr 0 0), (4, .ptr 1 0), (5, .ptr 2 0), (7, vi ((k1_ + 1 : Nat) : Int))] [(2, .box 46 (avs (Val.cells v))), (1, .box 51 (avs (Attr.cells a))), (0, .box 64 (avs (FieldV.cells f)))] 3 ?_
      exact ⟨k1_ + 1, ⟨by omega, scanN_none hs1_ (by omega) (by unfold rnumberM_B1; (try rw [h3]); (try rw [h4]); (try rw [h8]); (try rw [h9]); first | done | kernel_rfl)⟩, by omega, leG⟩
    ·
     have h8' := of_decide_eq_false h8
     refine AWp.dz [vi ((k1_ : Nat) : Int), vb false, vb false, .tuple [], .tuple [], .tuple [], .tuple [], .tuple [], .tuple [], vb false] 45 [(3, .ptr 0 0), (4, .ptr 1 0), (5, .ptr 2 0), (7, vi ((k1_ : Nat) : Int)), (43, vb false)] [(2, .box 46 (avs (Val.cells v))), (1, .box 51 (avs (Attr.cells a))), (0, .box 64 (avs (FieldV.cells f)))] 3 ?_ ?_
     ·
      refine DSteps.cons (DStep.va) ?_
      refine DSteps.cons ((DStep.val (v := vb (decide (((k1_ : Nat) : Int) < 32768))) (by kernel_rfl) (by kernel_rfl)).cast (congrArg vb h8)) ?_
      refine DSteps.cons (DStep.va) ?_
      refine DSteps.cons (DStep.skip (by kernel_rfl)) ?_
      refine DSteps.cons (DStep.skip (by kernel_rfl)) ?_
      refine DSteps.cons (DStep.skip (by kernel_rfl)) ?_
      refine DSteps.cons (DStep.skip (by kernel_rfl)) ?_
      refine DSteps.cons (DStep.skip (by kernel_rfl)) ?_
      refine DSteps.cons (DStep.skip (by kernel_rfl)) ?_
      refine DSteps.cons (DStep.va) ?_
      exact DSteps.nl
     refine AWp.cndF ?_
     refine AWp.skip ?_
     refine AWp.he [.run 1, .cast (vi (IntKind.i64.wrap (((k1_ : Nat) : Int) + 1))) (vi ((k1_ + 1 : Nat) : Int)) (congrArg vi (wrap_nat (by omega))), .run 1] 45 [(3, .ptr 0 0), (4, .ptr 1 0), (5, .ptr 2 0), (7, vi ((k1_ + 1 : Nat) : Int))] [(2, .box 46 (avs (Val.cells v))), (1, .box 51 (avs (Attr.cells a))), (0, .box 64 (avs (FieldV.cells f)))] 3 ?_
     exact ⟨k1_ + 1, ⟨by omega, scanN_none hs1_ (by omega) (by unfold rnumberM_B1; (try rw [h3]); (try rw [h4]); (try rw [h8]); first | done | kernel_rfl)⟩, by omega, leG⟩
  ·
   have h3' := of_decide_eq_false h3
   refine AWp.exit ?_
   have hL1_ : rnumberM_L1 f a v = none := scanN_end hs1_ (by omega)
   refine AWp.hz [.run 1] 45 [(6, vi (-1))] [] 3 ?_
   refine AWp.ret ?_
   exact leafR (r := vi (-1)) (by unfold rnumberM; (try rw [h1]); (try rw [hL1_]); first | done | kernel_rfl)
def rencodeM_B2 (c : Codec) (h : Home) (l : List ItemV) (e1_ : ItemV) (x_ : Int × Int) : Step Unit (Int × Int) :=
  match x_ with
  | (a2_0, a2_1) => (bif decide (a2_1 ≥ 0) then (match (c.fields)[a2_1.toNat]? with | some e2_ => (bif beqS e2_.cluster e1_.key.cluster then (bif beqS e2_.attr e1_.key.attr then .nxt (a2_1, IntKind.i64.wrap (a2_1 - 1)) else .nxt (a2_0, IntKind.i64.wrap (a2_1 - 1))) else .nxt (a2_0, IntKind.i64.wrap (a2_1 - 1))) | none => .nxt x_) else .brk (a2_0, a2_1))
def rencodeM_L2 (c : Codec) (h : Home) (l : List ItemV) (e1_ : ItemV) (x_ : Int × Int) : Int × Int := loopV (rencodeM_B2 c h l e1_) (c.fields.length + 1) x_
def rencodeM_B1 (c : Codec) (h : Home) (l : List ItemV) (k1_ : Nat) (x_ : (List Int)) : Step (ByteArray × Int) ((List Int)) :=
  match x_ with
  | (a1_0) => (match (l)[k1_]? with | some e1_ => (bif (!((rfindM h e1_.key).2) || !(oursM c h e1_.key.dev)) then .ret (⟨#[]⟩, 8) else (bif decide ((rencodeM_L2 c h l e1_ (-1, IntKind.i64.wrap (((c.fields.length : Nat) : Int) - 1))).1 < 0) then .ret (⟨#[]⟩, 7) else (bif (rfitsM ((rfindM h e1_.key).1) e1_.value != 0) then .ret (⟨#[]⟩, 2) else (bif (((rfindM h e1_.key).1).kind != 1) then (match (c.fields)[((rencodeM_L2 c h l e1_ (-1, IntKind.i64.wrap (((c.fields.length : Nat) : Int) - 1))).1).toNat]? with | some e3_ => (bif decide (rnumberM e3_ ((rfindM h e1_.key).1) e1_.value < 0) then .ret (⟨#[]⟩, 2) else .nxt ((a1_0 ++ [IntKind.u8.wrap e3_.code, IntKind.u8.wrap (IntKind.i64.wrap ((rnumberM e3_ ((rfindM h e1_.key).1) e1_.value).tdiv 256)), IntKind.u8.wrap ((rnumberM e3_ ((rfindM h e1_.key).1) e1_.value).tmod 256)]))) | none => .nxt x_) else (bif decide (e1_.value.n < 0) then .ret (⟨#[]⟩, 2) else (match (c.fields)[((rencodeM_L2 c h l e1_ (-1, IntKind.i64.wrap (((c.fields.length : Nat) : Int) - 1))).1).toNat]? with | some e3_ => .nxt ((a1_0 ++ [IntKind.u8.wrap e3_.code, IntKind.u8.wrap (IntKind.i64.wrap (e1_.value.n.tdiv 256)), IntKind.u8.wrap (e1_.value.n.tmod 256)])) | none => .nxt x_)))))) | none => .nxt x_)
def rencodeM_L1 (c : Codec) (h : Home) (l : List ItemV) (x_ : (List Int)) : (ByteArray × Int) ⊕ ((List Int)) := loopS (rencodeM_B1 c h l) 0 l.length x_
def rencodeM (c : Codec) (h : Home) (l : List ItemV) : ByteArray × Int :=
  (bif (rvenCheckM c h != 0) then (⟨#[]⟩, rvenCheckM c h) else (match (rencodeM_L1 c h l ([])) with | .inl r_ => r_ | .inr (a1_0) => (bytesOf a1_0, 0)))
theorem rencodeM_ends (c : Codec) (h : Home) (l : List ItemV) (x : ItemV) (hc : c.fields.length ≤ 1000) : ∀ (fuel : Nat) (a i : Int), -1 ≤ i → i < (c.fields.length : Int) → i < fuel → endsW (rencodeM_B2 c h l x) (fuel + 1) (a, i)
  | fuel, a, i, h0, h1, hf => by
    unfold endsW
    cases hb : rencodeM_B2 c h l x (a, i) with
    | ret _ => trivial
    | brk _ => trivial
    | nxt b =>
      unfold rencodeM_B2 at hb
      simp only [cond_eq_ite] at hb
      split at hb
      · rename_i hs
        have hs := of_decide_eq_true hs
        have hw := wrap64_of (i - 1) (by omega) (by omega)
        rw [hw] at hb
        cases fuel with
        | zero => omega
        | succ fuel =>
          have ih := rencodeM_ends c h l x hc fuel
          split at hb
          · split at hb
            · split at hb
              all_goals
                cases hb
                exact ih _ _ (by omega) (by omega) (by omega)
            · cases hb
              exact ih _ _ (by omega) (by omega) (by omega)
          · rename_i hn
            rw [List.getElem?_eq_none_iff] at hn
            omega
      · cases hb
theorem rencodeM_ok (c : Codec) (h : Home) (l : List ItemV) (hl : l.length ≤ 1000) (hc : c.fields.length ≤ 1000) :
 ACalls Try.prog G_ 16 [.agg (avs (Codec.cells c)), .agg (avs (Home.cells h)), .rv (.sl 7 (l.map ItemV.cells))] [] 0 (fun r τ => r = .tuple [vs ((rencodeM c h l).1), vi ((rencodeM c h l).2)] ∧ τ = []) := by
 have hwl_ := wrap64_of (((c.fields.length : Nat) : Int) - 1) (by omega) (by omega)
 refine ACalls.body Try.func16 rfl 130 [(0, .agg (avs (Codec.cells c))), (1, .agg (avs (Home.cells h))), (2, .rv (.sl 7 (l.map ItemV.cells)))] ?_
 refine AWp.hz [.run 4] 130 [(2, .rv (.sl 7 (l.map ItemV.cells))), (3, .ptr 0 0), (4, .ptr 1 0)] [(1, .box 28 (avs (Home.cells h))), (0, .box 24 (avs (Codec.cells c)))] 2 ?_
 refine AWp.seq ?_
 refine AWp.hz [.run 2, .call 11 [.agg (avs (Codec.cells c)), .agg (avs (Home.cells h))] (vi (rvenCheckM c h)) [] 0 (rvenCheckM_ok c h), .run 1] 130 [(2, .rv (.sl 7 (l.map ItemV.cells))), (3, .ptr 0 0), (4, .ptr 1 0), (19, vb (rvenCheckM c h != 0))] [(1, .box 28 (avs (Home.cells h))), (0, .box 24 (avs (Codec.cells c)))] 2 ?_
 refine AWp.cnd ((rvenCheckM c h != 0)) (fun h1 => ?_) (fun h1 => ?_)
 ·
  refine AWp.hz [.run 2, .call 11 [.agg (avs (Codec.cells c)), .agg (avs (Home.cells h))] (vi (rvenCheckM c h)) [] 0 (rvenCheckM_ok c h), .run 2] 130 [(6, vs (⟨#[]⟩)), (7, vi (rvenCheckM c h))] [] 2 ?_
  refine AWp.ret ?_
  exact leafR (r := .tuple [vs (⟨#[]⟩), vi (rvenCheckM c h)]) (by show (.tuple [vs (⟨#[]⟩), vi (rvenCheckM c h)] : AV) = .tuple [vs ((rencodeM c h l).1), vi ((rencodeM c h l).2)]; unfold rencodeM; (try rw [h1]); first | done | kernel_rfl)
 ·
  refine AWp.skip ?_
  refine AWp.hz [.run 1] 130 [(2, .rv (.sl 7 (l.map ItemV.cells))), (3, .ptr 0 0), (4, .ptr 1 0), (8, .rv (.v (.slice none 0 0)))] [(1, .box 28 (avs (Home.cells h))), (0, .box 24 (avs (Codec.cells c)))] 2 ?_
  refine AWp.seq ?_
  refine AWp.hz [.run 1] 130 [(2, .rv (.sl 7 (l.map ItemV.cells))), (3, .ptr 0 0), (4, .ptr 1 0), (8, .rv (.v (.slice none 0 0))), (9, vi 0)] [(1, .box 28 (avs (Home.cells h))), (0, .box 24 (avs (Codec.cells c)))] 2 ?_
  refine AWp.nrow 8 5 1 ?_
  refine AWp.joinE1 (A := (List Int)) (fun x_ => Z 130 [(8, .sl 2)] [(2, .row false 5 1 (x_.map u8C))] 3) (fun x_ => (rencodeM_L1 c h l ([])) = .inr x_) ?_ ?_
  ·
   refine AWp.block ?_
   refine AWp.loop (ι := Nat × ((List Int))) (fun x_ => Z 130 [(2, .rv (.sl 7 (l.map ItemV.cells))), (3, .ptr 0 0), (4, .ptr 1 0), (8, .sl 2), (9, vi ((x_.1 : Nat) : Int))] [(2, .row false 5 1 (x_.2.map u8C)), (1, .box 28 (avs (Home.cells h))), (0, .box 24 (avs (Codec.cells c)))] 3) (fun x_ => x_.1 ≤ l.length ∧ (rencodeM_L1 c h l ([])) = loopS (rencodeM_B1 c h l) x_.1 (l.length - x_.1) x_.2 ∧ x_.2.length = 3 * x_.1) (fun x_ => l.length - x_.1) (0, ([])) leZ ⟨Nat.zero_le _, rfl, rfl⟩ ?_
   rintro ⟨k1_, a1_0⟩ ⟨hk1_, hs1_, hv1_⟩
   try dsimp only at hk1_
   try dsimp only at hs1_
   try dsimp only at hv1_
   refine AWp.cv 130 [(2, .rv (.sl 7 (l.map ItemV.cells))), (3, .ptr 0 0), (4, .ptr 1 0), (8, .sl 2), (9, vi ((k1_ : Nat) : Int))] [(2, .row false 5 1 (a1_0.map u8C)), (1, .box 28 (avs (Home.cells h))), (0, .box 24 (avs (Codec.cells c)))] 3 ?_
   refine AWp.seq ?_
   refine AWp.hzl [.run 2, .len ItemV.cells l 7, .run 1] 130 [(2, .rv (.sl 7 (l.map ItemV.cells))), (3, .ptr 0 0), (4, .ptr 1 0), (8, .sl 2), (9, vi ((k1_ : Nat) : Int)), (26, vb (decide (((k1_ : Nat) : Int) < ((l.length : Nat) : Int))))] [(2, .row false 5 1 (a1_0.map u8C)), (1, .box 28 (avs (Home.cells h))), (0, .box 24 (avs (Codec.cells c)))] 3 (fun hl => ?_)
   obtain ⟨hn2, -⟩ := hl
   refine AWp.cnd (decide (((k1_ : Nat) : Int) < ((l.length : Nat) : Int))) (fun h3 => ?_) (fun h3 => ?_)
   ·
    have h3' := of_decide_eq_true h3
    refine AWp.skip ?_
    refine AWp.seq ?_
    refine AWp.block ?_
    obtain ⟨e1_, he1_⟩ := getEx (l := l) (j := k1_) (by omega)
    refine AWp.hz [.run 2, .idx ItemV.cells l 7 k1_ e1_ he1_, .run 4] 130 [(2, .rv (.sl 7 (l.map ItemV.cells))), (3, .ptr 0 0), (4, .ptr 1 0), (8, .sl 2), (9, vi ((k1_ : Nat) : Int)), (10, .ptr 3 0)] [(3, .box 44 [vi e1_.key.dev, vs e1_.key.cluster, vs e1_.key.attr]), (2, .row false 5 1 (a1_0.map u8C)), (1, .box 28 (avs (Home.cells h))), (0, .box 24 (avs (Codec.cells c)))] 4 ?_
    refine AWp.hz [.run 2, .call 30 [.agg (avs (Home.cells h)), .agg [vi e1_.key.dev, vs e1_.key.cluster, vs e1_.key.attr]] (.tuple [.agg (avs (Attr.cells ((rfindM h e1_.key).1))), vb ((rfindM h e1_.key).2)]) [] 0 (rfindM_ok h e1_.key), .run 6] 130 [(2, .rv (.sl 7 (l.map ItemV.cells))), (3, .ptr 0 0), (4, .ptr 1 0), (8, .sl 2), (9, vi ((k1_ : Nat) : Int)), (10, .ptr 3 0), (11, .ptr 4 0), (12, vb ((rfindM h e1_.key).2))] [(4, .box 51 (avs (Attr.cells ((rfindM h e1_.key).1)))), (3, .box 44 [vi e1_.key.dev, vs e1_.key.cluster, vs e1_.key.attr]), (2, .row false 5 1 (a1_0.map u8C)), (1, .box 28 (avs (Home.cells h))), (0, .box 24 (avs (Codec.cells c)))] 5 ?_
    refine AWp.seq ?_
    refine AWp.join (Z 130 [(2, .rv (.sl 7 (l.map ItemV.cells))), (3, .ptr 0 0), (4, .ptr 1 0), (8, .sl 2), (9, vi ((k1_ : Nat) : Int)), (10, .ptr 3 0), (11, .ptr 4 0), (49, vb (!((rfindM h e1_.key).2) || !(oursM c h e1_.key.dev)))] [(4, .box 51 (avs (Attr.cells ((rfindM h e1_.key).1)))), (3, .box 44 [vi e1_.key.dev, vs e1_.key.cluster, vs e1_.key.attr]), (2, .row false 5 1 (a1_0.map u8C)), (1, .box 28 (avs (Home.cells h))), (0, .box 24 (avs (Codec.cells c)))] 5) ?_ ?_
    ·
     refine AWp.region ?_
     refine AOps.hg [.run 3] (!((rfindM h e1_.key).2)) 130 (fun b_ => [(2, .rv (.sl 7 (l.map ItemV.cells))), (3, .ptr 0 0), (4, .ptr 1 0), (8, .sl 2), (9, vi ((k1_ : Nat) : Int)), (10, .ptr 3 0), (11, .ptr 4 0), (42, vb b_)]) [(4, .box 51 (avs (Attr.cells ((rfindM h e1_.key).1)))), (3, .box 44 [vi e1_.key.dev, vs e1_.key.cluster, vs e1_.key.attr]), (2, .row false 5 1 (a1_0.map u8C)), (1, .box 28 (avs (Home.cells h))), (0, .box 24 (avs (Codec.cells c)))] 5 (fun hg4 => ?_) (fun hg4 => ?_)
     ·
      refine AOps.he [.run 7] 130 [(2, .rv (.sl 7 (l.map ItemV.cells))), (3, .ptr 0 0), (4, .ptr 1 0), (8, .sl 2), (9, vi ((k1_ : Nat) : Int)), (10, .ptr 3 0), (11, .ptr 4 0), (49, vb true)] [(4, .box 51 (avs (Attr.cells ((rfindM h e1_.key).1)))), (3, .box 44 [vi e1_.key.dev, vs e1_.key.cluster, vs e1_.key.attr]), (2, .row false 5 1 (a1_0.map u8C)), (1, .box 28 (avs (Home.cells h))), (0, .box 24 (avs (Codec.cells c)))] 5 ?_
      exact leZ (by rw [hg4]; first | done | kernel_rfl)
     ·
      refine AOps.he [.run 4, .call 29 [.agg (avs (Codec.cells c)), .agg (avs (Home.cells h)), vi e1_.key.dev] (vb (oursM c h e1_.key.dev)) [] 0 (oursM_ok c h e1_.key.dev), .run 2] 130 [(2, .rv (.sl 7 (l.map ItemV.cells))), (3, .ptr 0 0), (4, .ptr 1 0), (8, .sl 2), (9, vi ((k1_ : Nat) : Int)), (10, .ptr 3 0), (11, .ptr 4 0), (49, vb (!(oursM c h e1_.key.dev)))] [(4, .box 51 (avs (Attr.cells ((rfindM h e1_.key).1)))), (3, .box 44 [vi e1_.key.dev, vs e1_.key.cluster, vs e1_.key.attr]), (2, .row false 5 1 (a1_0.map u8C)), (1, .box 28 (avs (Home.cells h))), (0, .box 24 (avs (Codec.cells c)))] 5 ?_
      exact leZ (by rw [hg4]; first | done | kernel_rfl)
    ·
     refine AWp.cnd ((!((rfindM h e1_.key).2) || !(oursM c h e1_.key.dev))) (fun h5 => ?_) (fun h5 => ?_)
     ·
      refine AWp.hz [.run 2] 130 [(6, vs (⟨#[]⟩)), (7, vi 8)] [] 5 ?_
      refine AWp.ret ?_
      have hL1_ : (rencodeM_L1 c h l ([])) = .inl (⟨#[]⟩, 8) := loopS_ret hs1_ (by omega) (by unfold rencodeM_B1; (try dsimp only); (try simp only [he1_]); (try rw [h3]); (try rw [h5]); first | done | kernel_rfl)
      exact leafR (r := .tuple [vs (⟨#[]⟩), vi 8]) (by show (.tuple [vs (⟨#[]⟩), vi 8] : AV) = .tuple [vs ((rencodeM c h l).1), vi ((rencodeM c h l).2)]; unfold rencodeM; (try rw [h1]); (try rw [hL1_]); (try dsimp only); first | done | kernel_rfl)
     ·
      refine AWp.skip ?_
      refine AWp.hz [.run 1] 130 [(2, .rv (.sl 7 (l.map ItemV.cells))), (3, .ptr 0 0), (4, .ptr 1 0), (8, .sl 2), (9, vi ((k1_ : Nat) : Int)), (10, .ptr 3 0), (11, .ptr 4 0), (13, vi (-1))] [(4, .box 51 (avs (Attr.cells ((rfindM h e1_.key).1)))), (3, .box 44 [vi e1_.key.dev, vs e1_.key.cluster, vs e1_.key.attr]), (2, .row false 5 1 (a1_0.map u8C)), (1, .box 28 (avs (Home.cells h))), (0, .box 24 (avs (Codec.cells c)))] 5 ?_
      refine AWp.seq ?_
      refine AWp.hzl [.run 2, .len FieldV.cells c.fields 6, .run 2] 130 [(2, .rv (.sl 7 (l.map ItemV.cells))), (3, .ptr 0 0), (4, .ptr 1 0), (8, .sl 2), (9, vi ((k1_ : Nat) : Int)), (10, .ptr 3 0), (11, .ptr 4 0), (13, vi (-1)), (14, vi (IntKind.i64.wrap (((c.fields.length : Nat) : Int) - 1)))] [(4, .box 51 (avs (Attr.cells ((rfindM h e1_.key).1)))), (3, .box 44 [vi e1_.key.dev, vs e1_.key.cluster, vs e1_.key.attr]), (2, .row false 5 1 (a1_0.map u8C)), (1, .box 28 (avs (Home.cells h))), (0, .box 24 (avs (Codec.cells c)))] 5 (fun hl => ?_)
      obtain ⟨hn6, -⟩ := hl
      refine AWp.joinE1 (A := Int × Int) (fun x_ => Z 130 [(2, .rv (.sl 7 (l.map ItemV.cells))), (3, .ptr 0 0), (4, .ptr 1 0), (8, .sl 2), (9, vi ((k1_ : Nat) : Int)), (11, .ptr 4 0), (13, vi x_.1)] [(4, .box 51 (avs (Attr.cells ((rfindM h e1_.key).1)))), (2, .row false 5 1 (a1_0.map u8C)), (1, .box 28 (avs (Home.cells h))), (0, .box 24 (avs (Codec.cells c)))] 5) (fun x_ => x_ = (rencodeM_L2 c h l e1_ (-1, IntKind.i64.wrap (((c.fields.length : Nat) : Int) - 1))) ∧ (-1 ≤ x_.1 ∧ x_.1 < (c.fields.length : Int) ∧ (0 ≤ x_.1 → ∃ f : FieldV, c.fields[x_.1.toNat]? = some f ∧ f.cluster = e1_.key.cluster ∧ f.attr = e1_.key.attr))) ?_ ?_
      ·
       refine AWp.block ?_
       refine AWp.loop (ι := Nat × (Int × Int)) (fun x_ => Z 130 [(2, .rv (.sl 7 (l.map ItemV.cells))), (3, .ptr 0 0), (4, .ptr 1 0), (8, .sl 2), (9, vi ((k1_ : Nat) : Int)), (10, .ptr 3 0), (11, .ptr 4 0), (13, vi x_.2.1), (14, vi x_.2.2)] [(4, .box 51 (avs (Attr.cells ((rfindM h e1_.key).1)))), (3, .box 44 [vi e1_.key.dev, vs e1_.key.cluster, vs e1_.key.attr]), (2, .row false 5 1 (a1_0.map u8C)), (1, .box 28 (avs (Home.cells h))), (0, .box 24 (avs (Codec.cells c)))] 5) (fun x_ => (loopW (rencodeM_B2 c h l e1_) (c.fields.length + 1) (-1, IntKind.i64.wrap (((c.fields.length : Nat) : Int) - 1)) = loopW (rencodeM_B2 c h l e1_) x_.1 x_.2 ∧ endsW (rencodeM_B2 c h l e1_) x_.1 x_.2) ∧ (-1 ≤ x_.2.2 ∧ x_.2.2 < (c.fields.length : Int) ∧ -1 ≤ x_.2.1 ∧ x_.2.1 < (c.fields.length : Int) ∧ (0 ≤ x_.2.1 → ∃ f : FieldV, c.fields[x_.2.1.toNat]? = some f ∧ f.cluster = e1_.key.cluster ∧ f.attr = e1_.key.attr))) (fun x_ => x_.1) (c.fields.length + 1, (-1, IntKind.i64.wrap (((c.fields.length : Nat) : Int) - 1))) leZ ⟨⟨rfl, rencodeM_ends c h l _ hc _ _ _ (by omega) (by omega) (by omega)⟩, ⟨by dsimp only; omega, by dsimp only; omega, by dsimp only; omega, by dsimp only; omega, fun h_ => absurd h_ (by dsimp only; omega)⟩⟩ ?_
       rintro ⟨n2_, ⟨a2_0, a2_1⟩⟩ ⟨hs2_, hv2_⟩
       try dsimp only at hv2_
       try dsimp only at hs2_
       refine AWp.cv 130 [(2, .rv (.sl 7 (l.map ItemV.cells))), (3, .ptr 0 0), (4, .ptr 1 0), (8, .sl 2), (9, vi ((k1_ : Nat) : Int)), (10, .ptr 3 0), (11, .ptr 4 0), (13, vi a2_0), (14, vi a2_1)] [(4, .box 51 (avs (Attr.cells ((rfindM h e1_.key).1)))), (3, .box 44 [vi e1_.key.dev, vs e1_.key.cluster, vs e1_.key.attr]), (2, .row false 5 1 (a1_0.map u8C)), (1, .box 28 (avs (Home.cells h))), (0, .box 24 (avs (Codec.cells c)))] 5 ?_
       refine AWp.seq ?_
       refine AWp.hz [.run 2] 130 [(2, .rv (.sl 7 (l.map ItemV.cells))), (3, .ptr 0 0), (4, .ptr 1 0), (8, .sl 2), (9, vi ((k1_ : Nat) : Int)), (10, .ptr 3 0), (11, .ptr 4 0), (13, vi a2_0), (14, vi a2_1), (55, vb (decide (a2_1 ≥ 0)))] [(4, .box 51 (avs (Attr.cells ((rfindM h e1_.key).1)))), (3, .box 44 [vi e1_.key.dev, vs e1_.key.cluster, vs e1_.key.attr]), (2, .row false 5 1 (a1_0.map u8C)), (1, .box 28 (avs (Home.cells h))), (0, .box 24 (avs (Codec.cells c)))] 5 ?_
       refine AWp.cnd (decide (a2_1 ≥ 0)) (fun h7 => ?_) (fun h7 => ?_)
       ·
        have h7' := of_decide_eq_true h7
        refine AWp.skip ?_
        refine AWp.seq ?_
        refine AWp.block ?_
        have ht8 : a2_1 = ((a2_1.toNat : Nat) : Int) := (Int.toNat_of_nonneg (by omega)).symm
        obtain ⟨e2_, he2_⟩ := getEx (l := c.fields) (j := a2_1.toNat) (by omega)
        refine AWp.split (beqS e2_.cluster e1_.key.cluster) (fun h9 => ?_) (fun h9 => ?_)
        ·
         have ht10 : a2_1 = ((a2_1.toNat : Nat) : Int) := (Int.toNat_of_nonneg (by omega)).symm
         have ht11 : a2_1 = ((a2_1.toNat : Nat) : Int) := (Int.toNat_of_nonneg (by omega)).symm
         refine AWp.dz [.ptr 0 1, .rv (.sl 6 (c.fields.map FieldV.cells)), vi ((a2_1.toNat : Nat) : Int), .rv (.ptr (FieldV.cells e2_)), .rv (.ptr (FieldV.cells e2_)), vs e2_.cluster, .ptr 3 1, vs e1_.key.cluster, vb true, vb true, .ptr 0 1, .rv (.sl 6 (c.fields.map FieldV.cells)), vi ((a2_1.toNat : Nat) : Int), .rv (.ptr (FieldV.cells e2_)), .rv (.ptr [.v (.string e2_.attr), .v (.int .i64 e2_.code), .v (.int .i64 e2_.scale), .v (.int .i64 e2_.offset), .sl 1 (e2_.map.map intC)]), vs e2_.attr, .ptr 3 2, vs e1_.key.attr, vb (beqS e2_.attr e1_.key.attr), vb (beqS e2_.attr e1_.key.attr)] 130 [(2, .rv (.sl 7 (l.map ItemV.cells))), (3, .ptr 0 0), (4, .ptr 1 0), (8, .sl 2), (9, vi ((k1_ : Nat) : Int)), (10, .ptr 3 0), (11, .ptr 4 0), (13, vi a2_0), (14, vi a2_1), (77, vb (beqS e2_.attr e1_.key.attr))] [(4, .box 51 (avs (Attr.cells ((rfindM h e1_.key).1)))), (3, .box 44 [vi e1_.key.dev, vs e1_.key.cluster, vs e1_.key.attr]), (2, .row false 5 1 (a1_0.map u8C)), (1, .box 28 (avs (Home.cells h))), (0, .box 24 (avs (Codec.cells c)))] 5 ?_ ?_
         ·
          refine DSteps.cons (DStep.va) ?_
          refine DSteps.cons (DStep.va) ?_
          refine DSteps.cons ((DStep.val (v := vi a2_1) (by kernel_rfl) (by kernel_rfl)).cast (congrArg vi ht10)) ?_
          refine DSteps.cons (DStep.vs (by kernel_rfl) (R_indexAddrM FieldV.cells c.fields 6 a2_1.toNat rfl (by kernel_rfl) (by kernel_rfl) (by kernel_rfl) he2_)) ?_
          refine DSteps.cons (DStep.va) ?_
          refine DSteps.cons (DStep.va) ?_
          refine DSteps.cons (DStep.va) ?_
          refine DSteps.cons (DStep.va) ?_
          refine DSteps.cons ((DStep.val (v := vb (beqS e2_.cluster e1_.key.cluster)) (by kernel_rfl) (by kernel_rfl)).cast (congrArg vb h9)) ?_
          refine DSteps.cons (DStep.va) ?_
          refine DSteps.cons (DStep.va) ?_
          refine DSteps.cons (DStep.va) ?_
          refine DSteps.cons ((DStep.val (v := vi a2_1) (by kernel_rfl) (by kernel_rfl)).cast (congrArg vi ht11)) ?_
          refine DSteps.cons (DStep.vs (by kernel_rfl) (R_indexAddrM FieldV.cells c.fields 6 a2_1.toNat rfl (by kernel_rfl) (by kernel_rfl) (by kernel_rfl) he2_)) ?_
          refine DSteps.cons (DStep.va) ?_
          refine DSteps.cons (DStep.va) ?_
          refine DSteps.cons (DStep.va) ?_
          refine DSteps.cons (DStep.va) ?_
          refine DSteps.cons (DStep.va) ?_
          refine DSteps.cons (DStep.va) ?_
          exact DSteps.nl
         refine AWp.cnd (beqS e2_.attr e1_.key.attr) (fun h12 => ?_) (fun h12 => ?_)
         ·
          refine AWp.he [.run 2] 130 [(2, .rv (.sl 7 (l.map ItemV.cells))), (3, .ptr 0 0), (4, .ptr 1 0), (8, .sl 2), (9, vi ((k1_ : Nat) : Int)), (10, .ptr 3 0), (11, .ptr 4 0), (13, vi a2_1), (14, vi a2_1)] [(4, .box 51 (avs (Attr.cells ((rfindM h e1_.key).1)))), (3, .box 44 [vi e1_.key.dev, vs e1_.key.cluster, vs e1_.key.attr]), (2, .row false 5 1 (a1_0.map u8C)), (1, .box 28 (avs (Home.cells h))), (0, .box 24 (avs (Codec.cells c)))] 5 ?_
          refine AWp.he [.run 3] 130 [(2, .rv (.sl 7 (l.map ItemV.cells))), (3, .ptr 0 0), (4, .ptr 1 0), (8, .sl 2), (9, vi ((k1_ : Nat) : Int)), (10, .ptr 3 0), (11, .ptr 4 0), (13, vi a2_1), (14, vi (IntKind.i64.wrap (a2_1 - 1)))] [(4, .box 51 (avs (Attr.cells ((rfindM h e1_.key).1)))), (3, .box 44 [vi e1_.key.dev, vs e1_.key.cluster, vs e1_.key.attr]), (2, .row false 5 1 (a1_0.map u8C)), (1, .box 28 (avs (Home.cells h))), (0, .box 24 (avs (Codec.cells c)))] 5 ?_
          obtain ⟨m2_, rfl, hm2_⟩ := loopW_next (a' := (a2_1, IntKind.i64.wrap (a2_1 - 1))) hs2_ (by unfold rencodeM_B2; (try dsimp only); (try simp only [he1_]); (try simp only [he2_]); (try rw [h7]); (try rw [h9]); (try rw [h12]); first | done | kernel_rfl)
          exact ⟨(m2_, (a2_1, IntKind.i64.wrap (a2_1 - 1))), ⟨hm2_, by (have hw := wrap64_of (a2_1 - 1) (by omega) (by omega)); dsimp only; first | exact ⟨by omega, by omega, hv2_.2.2.1, hv2_.2.2.2.1, hv2_.2.2.2.2⟩ | exact ⟨by omega, by omega, by omega, by omega, fun _ => ⟨_, by assumption, beqS_true.1 (by assumption), beqS_true.1 (by assumption)⟩⟩⟩, Nat.lt_succ_self _, leG⟩
         ·
          refine AWp.skip ?_
          refine AWp.he [.run 3] 130 [(2, .rv (.sl 7 (l.map ItemV.cells))), (3, .ptr 0 0), (4, .ptr 1 0), (8, .sl 2), (9, vi ((k1_ : Nat) : Int)), (10, .ptr 3 0), (11, .ptr 4 0), (13, vi a2_0), (14, vi (IntKind.i64.wrap (a2_1 - 1)))] [(4, .box 51 (avs (Attr.cells ((rfindM h e1_.key).1)))), (3, .box 44 [vi e1_.key.dev, vs e1_.key.cluster, vs e1_.key.attr]), (2, .row false 5 1 (a1_0.map u8C)), (1, .box 28 (avs (Home.cells h))), (0, .box 24 (avs (Codec.cells c)))] 5 ?_
          obtain ⟨m2_, rfl, hm2_⟩ := loopW_next (a' := (a2_0, IntKind.i64.wrap (a2_1 - 1))) hs2_ (by unfold rencodeM_B2; (try dsimp only); (try simp only [he1_]); (try simp only [he2_]); (try rw [h7]); (try rw [h9]); (try rw [h12]); first | done | kernel_rfl)
          exact ⟨(m2_, (a2_0, IntKind.i64.wrap (a2_1 - 1))), ⟨hm2_, by (have hw := wrap64_of (a2_1 - 1) (by omega) (by omega)); dsimp only; first | exact ⟨by omega, by omega, hv2_.2.2.1, hv2_.2.2.2.1, hv2_.2.2.2.2⟩ | exact ⟨by omega, by omega, by omega, by omega, fun _ => ⟨_, by assumption, beqS_true.1 (by assumption), beqS_true.1 (by assumption)⟩⟩⟩, Nat.lt_succ_self _, leG⟩
        ·
         have ht13 : a2_1 = ((a2_1.toNat : Nat) : Int) := (Int.toNat_of_nonneg (by omega)).symm
         refine AWp.dz [.ptr 0 1, .rv (.sl 6 (c.fields.map FieldV.cells)), vi ((a2_1.toNat : Nat) : Int), .rv (.ptr (FieldV.cells e2_)), .rv (.ptr (FieldV.cells e2_)), vs e2_.cluster, .ptr 3 1, vs e1_.key.cluster, vb false, vb false, .tuple [], .tuple [], .tuple [], .tuple [], .tuple [], .tuple [], .tuple [], .tuple [], .tuple [], vb false] 130 [(2, .rv (.sl 7 (l.map ItemV.cells))), (3, .ptr 0 0), (4, .ptr 1 0), (8, .sl 2), (9, vi ((k1_ : Nat) : Int)), (10, .ptr 3 0), (11, .ptr 4 0), (13, vi a2_0), (14, vi a2_1), (77, vb false)] [(4, .box 51 (avs (Attr.cells ((rfindM h e1_.key).1)))), (3, .box 44 [vi e1_.key.dev, vs e1_.key.cluster, vs e1_.key.attr]), (2, .row false 5 1 (a1_0.map u8C)), (1, .box 28 (avs (Home.cells h))), (0, .box 24 (avs (Codec.cells c)))] 5 ?_ ?_
         ·
          refine DSteps.cons (DStep.va) ?_
          refine DSteps.cons (DStep.va) ?_
          refine DSteps.cons ((DStep.val (v := vi a2_1) (by kernel_rfl) (by kernel_rfl)).cast (congrArg vi ht13)) ?_
          refine DSteps.cons (DStep.vs (by kernel_rfl) (R_indexAddrM FieldV.cells c.fields 6 a2_1.toNat rfl (by kernel_rfl) (by kernel_rfl) (by kernel_rfl) he2_)) ?_
          refine DSteps.cons (DStep.va) ?_
          refine DSteps.cons (DStep.va) ?_
          refine DSteps.cons (DStep.va) ?_
          refine DSteps.cons (DStep.va) ?_
          refine DSteps.cons ((DStep.val (v := vb (beqS e2_.cluster e1_.key.cluster)) (by kernel_rfl) (by kernel_rfl)).cast (congrArg vb h9)) ?_
          refine DSteps.cons (DStep.va) ?_
          refine DSteps.cons (DStep.skip (by kernel_rfl)) ?_
          refine DSteps.cons (DStep.skip (by kernel_rfl)) ?_
          refine DSteps.cons (DStep.skip (by kernel_rfl)) ?_
          refine DSteps.cons (DStep.skip (by kernel_rfl)) ?_
          refine DSteps.cons (DStep.skip (by kernel_rfl)) ?_
          refine DSteps.cons (DStep.skip (by kernel_rfl)) ?_
          refine DSteps.cons (DStep.skip (by kernel_rfl)) ?_
          refine DSteps.cons (DStep.skip (by kernel_rfl)) ?_
          refine DSteps.cons (DStep.skip (by kernel_rfl)) ?_
          refine DSteps.cons (DStep.va) ?_
          exact DSteps.nl
         refine AWp.cndF ?_
         refine AWp.skip ?_
         refine AWp.he [.run 3] 130 [(2, .rv (.sl 7 (l.map ItemV.cells))), (3, .ptr 0 0), (4, .ptr 1 0), (8, .sl 2), (9, vi ((k1_ : Nat) : Int)), (10, .ptr 3 0), (11, .ptr 4 0), (13, vi a2_0), (14, vi (IntKind.i64.wrap (a2_1 - 1)))] [(4, .box 51 (avs (Attr.cells ((rfindM h e1_.key).1)))), (3, .box 44 [vi e1_.key.dev, vs e1_.key.cluster, vs e1_.key.attr]), (2, .row false 5 1 (a1_0.map u8C)), (1, .box 28 (avs (Home.cells h))), (0, .box 24 (avs (Codec.cells c)))] 5 ?_
         obtain ⟨m2_, rfl, hm2_⟩ := loopW_next (a' := (a2_0, IntKind.i64.wrap (a2_1 - 1))) hs2_ (by unfold rencodeM_B2; (try dsimp only); (try simp only [he1_]); (try simp only [he2_]); (try rw [h7]); (try rw [h9]); first | done | kernel_rfl)
         exact ⟨(m2_, (a2_0, IntKind.i64.wrap (a2_1 - 1))), ⟨hm2_, by (have hw := wrap64_of (a2_1 - 1) (by omega) (by omega)); dsimp only; first | exact ⟨by omega, by omega, hv2_.2.2.1, hv2_.2.2.2.1, hv2_.2.2.2.2⟩ | exact ⟨by omega, by omega, by omega, by omega, fun _ => ⟨_, by assumption, beqS_true.1 (by assumption), beqS_true.1 (by assumption)⟩⟩⟩, Nat.lt_succ_self _, leG⟩
       ·
        have h7' := of_decide_eq_false h7
        refine AWp.exit ?_
        have hq2_ := loopW_brk (a' := (a2_0, a2_1)) hs2_ (by unfold rencodeM_B2; (try dsimp only); (try simp only [he1_]); (try rw [h7]); first | done | kernel_rfl)
        exact ⟨(a2_0, a2_1), ⟨loopV_of hq2_, by exact hv2_.2.2⟩, leG⟩
      ·
       rintro _ ⟨rfl, hp2_⟩
       try dsimp only at hp2_
       refine AWp.seq ?_
       refine AWp.hz [.run 2] 130 [(2, .rv (.sl 7 (l.map ItemV.cells))), (3, .ptr 0 0), (4, .ptr 1 0), (8, .sl 2), (9, vi ((k1_ : Nat) : Int)), (11, .ptr 4 0), (13, vi ((rencodeM_L2 c h l e1_ (-1, IntKind.i64.wrap (((c.fields.length : Nat) : Int) - 1))).1)), (80, vb (decide ((rencodeM_L2 c h l e1_ (-1, IntKind.i64.wrap (((c.fields.length : Nat) : Int) - 1))).1 < 0)))] [(4, .box 51 (avs (Attr.cells ((rfindM h e1_.key).1)))), (2, .row false 5 1 (a1_0.map u8C)), (1, .box 28 (avs (Home.cells h))), (0, .box 24 (avs (Codec.cells c)))] 5 ?_
       refine AWp.cnd (decide ((rencodeM_L2 c h l e1_ (-1, IntKind.i64.wrap (((c.fields.length : Nat) : Int) - 1))).1 < 0)) (fun h14 => ?_) (fun h14 => ?_)
       ·
        have h14' := of_decide_eq_true h14
        refine AWp.hz [.run 2] 130 [(6, vs (⟨#[]⟩)), (7, vi 7)] [] 5 ?_
        refine AWp.ret ?_
        have hL1_ : (rencodeM_L1 c h l ([])) = .inl (⟨#[]⟩, 7) := loopS_ret hs1_ (by omega) (by unfold rencodeM_B1; (try dsimp only); (try simp only [he1_]); (try rw [h3]); (try rw [h5]); (try rw [h14]); first | done | kernel_rfl)
        exact leafR (r := .tuple [vs (⟨#[]⟩), vi 7]) (by show (.tuple [vs (⟨#[]⟩), vi 7] : AV) = .tuple [vs ((rencodeM c h l).1), vi ((rencodeM c h l).2)]; unfold rencodeM; (try rw [h1]); (try rw [hL1_]); (try dsimp only); first | done | kernel_rfl)
       ·
        have h14' := of_decide_eq_false h14
        refine AWp.skip ?_
        refine AWp.seq ?_
        refine AWp.dz [.agg (avs (Attr.cells ((rfindM h e1_.key).1))), .rv (.sl 7 (l.map ItemV.cells)), vi ((k1_ : Nat) : Int), .rv (.ptr (ItemV.cells e1_)), .rv (.ptr [.v (.int .i64 e1_.value.kind), .v (.int .i64 e1_.value.n), .v (.string e1_.value.s), .v (.int .i64 e1_.version)]), .agg [vi e1_.value.kind, vi e1_.value.n, vs e1_.value.s], vi (rfitsM ((rfindM h e1_.key).1) e1_.value), vb (rfitsM ((rfindM h e1_.key).1) e1_.value != 0)] 130 [(2, .rv (.sl 7 (l.map ItemV.cells))), (3, .ptr 0 0), (4, .ptr 1 0), (8, .sl 2), (9, vi ((k1_ : Nat) : Int)), (11, .ptr 4 0), (13, vi ((rencodeM_L2 c h l e1_ (-1, IntKind.i64.wrap (((c.fields.length : Nat) : Int) - 1))).1)), (88, vb (rfitsM ((rfindM h e1_.key).1) e1_.value != 0))] [(4, .box 51 (avs (Attr.cells ((rfindM h e1_.key).1)))), (2, .row false 5 1 (a1_0.map u8C)), (1, .box 28 (avs (Home.cells h))), (0, .box 24 (avs (Codec.cells c)))] 5 ?_ ?_
        ·
         refine DSteps.cons (DStep.va) ?_
         refine DSteps.cons (DStep.va) ?_
         refine DSteps.cons (DStep.va) ?_
         refine DSteps.cons (DStep.vs (by kernel_rfl) (R_indexAddrM ItemV.cells l 7 k1_ rfl (by kernel_rfl) (by kernel_rfl) (by kernel_rfl) he1_)) ?_
         refine DSteps.cons (DStep.va) ?_
         refine DSteps.cons (DStep.va) ?_
         refine DSteps.cons (DStep.call rfl (by kernel_rfl) (by kernel_rfl) (by kernel_rfl) (args := [.agg (avs (Attr.cells ((rfindM h e1_.key).1))), .agg [vi e1_.value.kind, vi e1_.value.n, vs e1_.value.s]]) (by kernel_rfl) (by kernel_rfl) (rfitsM_ok ((rfindM h e1_.key).1) e1_.value) (by kernel_rfl) (Nat.le_of_ble_eq_true (by kernel_rfl))) ?_
         refine DSteps.cons (DStep.va) ?_
         exact DSteps.nl
        refine AWp.cnd ((rfitsM ((rfindM h e1_.key).1) e1_.value != 0)) (fun h15 => ?_) (fun h15 => ?_)
        ·
         refine AWp.hz [.run 2] 130 [(6, vs (⟨#[]⟩)), (7, vi 2)] [] 5 ?_
         refine AWp.ret ?_
         have hL1_ : (rencodeM_L1 c h l ([])) = .inl (⟨#[]⟩, 2) := loopS_ret hs1_ (by omega) (by unfold rencodeM_B1; (try dsimp only); (try simp only [he1_]); (try rw [h3]); (try rw [h5]); (try rw [h14]); (try rw [h15]); first | done | kernel_rfl)
         exact leafR (r := .tuple [vs (⟨#[]⟩), vi 2]) (by show (.tuple [vs (⟨#[]⟩), vi 2] : AV) = .tuple [vs ((rencodeM c h l).1), vi ((rencodeM c h l).2)]; unfold rencodeM; (try rw [h1]); (try rw [hL1_]); (try dsimp only); first | done | kernel_rfl)
        ·
         refine AWp.skip ?_
         refine AWp.hz [.run 2, .idx ItemV.cells l 7 k1_ e1_ he1_, .run 4] 130 [(2, .rv (.sl 7 (l.map ItemV.cells))), (3, .ptr 0 0), (4, .ptr 1 0), (8, .sl 2), (9, vi ((k1_ : Nat) : Int)), (11, .ptr 4 0), (13, vi ((rencodeM_L2 c h l e1_ (-1, IntKind.i64.wrap (((c.fields.length : Nat) : Int) - 1))).1)), (15, vi e1_.value.n)] [(4, .box 51 (avs (Attr.cells ((rfindM h e1_.key).1)))), (2, .row false 5 1 (a1_0.map u8C)), (1, .box 28 (avs (Home.cells h))), (0, .box 24 (avs (Codec.cells c)))] 5 ?_
         refine AWp.seq ?_
         refine AWp.hz [.run 3] 130 [(2, .rv (.sl 7 (l.map ItemV.cells))), (3, .ptr 0 0), (4, .ptr 1 0), (8, .sl 2), (9, vi ((k1_ : Nat) : Int)), (11, .ptr 4 0), (13, vi ((rencodeM_L2 c h l e1_ (-1, IntKind.i64.wrap (((c.fields.length : Nat) : Int) - 1))).1)), (15, vi e1_.value.n), (97, vb (((rfindM h e1_.key).1).kind != 1))] [(4, .box 51 (avs (Attr.cells ((rfindM h e1_.key).1)))), (2, .row false 5 1 (a1_0.map u8C)), (1, .box 28 (avs (Home.cells h))), (0, .box 24 (avs (Codec.cells c)))] 5 ?_
         refine AWp.cnd ((((rfindM h e1_.key).1).kind != 1)) (fun h16 => ?_) (fun h16 => ?_)
         ·
          have ht17 : ((rencodeM_L2 c h l e1_ (-1, IntKind.i64.wrap (((c.fields.length : Nat) : Int) - 1))).1) = ((((rencodeM_L2 c h l e1_ (-1, IntKind.i64.wrap (((c.fields.length : Nat) : Int) - 1))).1).toNat : Nat) : Int) := (Int.toNat_of_nonneg (by omega)).symm
          obtain ⟨e3_, he3_⟩ := getEx (l := c.fields) (j := ((rencodeM_L2 c h l e1_ (-1, IntKind.i64.wrap (((c.fields.length : Nat) : Int) - 1))).1).toNat) (by omega)
          refine AWp.dz1 [.ptr 0 1, .rv (.sl 6 (c.fields.map FieldV.cells)), vi ((((rencodeM_L2 c h l e1_ (-1, IntKind.i64.wrap (((c.fields.length : Nat) : Int) - 1))).1).toNat : Nat) : Int), .rv (.ptr (FieldV.cells e3_)), .agg (avs (FieldV.cells e3_)), .agg (avs (Attr.cells ((rfindM h e1_.key).1))), .rv (.sl 7 (l.map ItemV.cells)), vi ((k1_ : Nat) : Int), .rv (.ptr (ItemV.cells e1_)), .rv (.ptr [.v (.int .i64 e1_.value.kind), .v (.int .i64 e1_.value.n), .v (.string e1_.value.s), .v (.int .i64 e1_.version)]), .agg [vi e1_.value.kind, vi e1_.value.n, vs e1_.value.s], vi (rnumberM e3_ ((rfindM h e1_.key).1) e1_.value), vi (rnumberM e3_ ((rfindM h e1_.key).1) e1_.value)] 130 [(2, .rv (.sl 7 (l.map ItemV.cells))), (3, .ptr 0 0), (4, .ptr 1 0), (8, .sl 2), (9, vi ((k1_ : Nat) : Int)), (13, vi ((rencodeM_L2 c h l e1_ (-1, IntKind.i64.wrap (((c.fields.length : Nat) : Int) - 1))).1)), (15, vi (rnumberM e3_ ((rfindM h e1_.key).1) e1_.value))] [(2, .row false 5 1 (a1_0.map u8C)), (1, .box 28 (avs (Home.cells h))), (0, .box 24 (avs (Codec.cells c)))] 5 ?_ ?_
          ·
           refine DSteps.cons (DStep.va) ?_
           refine DSteps.cons (DStep.va) ?_
           refine DSteps.cons ((DStep.val (v := vi ((rencodeM_L2 c h l e1_ (-1, IntKind.i64.wrap (((c.fields.length : Nat) : Int) - 1))).1)) (by kernel_rfl) (by kernel_rfl)).cast (congrArg vi ht17)) ?_
           refine DSteps.cons (DStep.vs (by kernel_rfl) (R_indexAddrM FieldV.cells c.fields 6 (((rencodeM_L2 c h l e1_ (-1, IntKind.i64.wrap (((c.fields.length : Nat) : Int) - 1))).1).toNat) rfl (by kernel_rfl) (by kernel_rfl) (by kernel_rfl) he3_)) ?_
           refine DSteps.cons (DStep.va) ?_
           refine DSteps.cons (DStep.va) ?_
           refine DSteps.cons (DStep.va) ?_
           refine DSteps.cons (DStep.va) ?_
           refine DSteps.cons (DStep.vs (by kernel_rfl) (R_indexAddrM ItemV.cells l 7 k1_ rfl (by kernel_rfl) (by kernel_rfl) (by kernel_rfl) he1_)) ?_
           refine DSteps.cons (DStep.va) ?_
           refine DSteps.cons (DStep.va) ?_
           refine DSteps.cons (DStep.call rfl (by kernel_rfl) (by kernel_rfl) (by kernel_rfl) (args := [.agg (avs (FieldV.cells e3_)), .agg (avs (Attr.cells ((rfindM h e1_.key).1))), .agg [vi e1_.value.kind, vi e1_.value.n, vs e1_.value.s]]) (by kernel_rfl) (by kernel_rfl) (rnumberM_ok e3_ ((rfindM h e1_.key).1) e1_.value (by (obtain ⟨f_, hf_, hc_, ha_⟩ := hp2_.2.2 (by omega); cases (Option.some.inj (hf_.symm.trans (by assumption : c.fields[_]? = some e3_))); exact rnum_pre (bz (by assumption)) (or_not (by assumption)).1 (bz (by assumption)) hf_ hc_ ha_))) (by kernel_rfl) (Nat.le_of_ble_eq_true (by kernel_rfl))) ?_
           refine DSteps.cons (DStep.va) ?_
           exact DSteps.nl
          refine AWp.seq ?_
          refine AWp.hz [.run 2] 130 [(2, .rv (.sl 7 (l.map ItemV.cells))), (3, .ptr 0 0), (4, .ptr 1 0), (8, .sl 2), (9, vi ((k1_ : Nat) : Int)), (13, vi ((rencodeM_L2 c h l e1_ (-1, IntKind.i64.wrap (((c.fields.length : Nat) : Int) - 1))).1)), (15, vi (rnumberM e3_ ((rfindM h e1_.key).1) e1_.value)), (111, vb (decide (rnumberM e3_ ((rfindM h e1_.key).1) e1_.value < 0)))] [(2, .row false 5 1 (a1_0.map u8C)), (1, .box 28 (avs (Home.cells h))), (0, .box 24 (avs (Codec.cells c)))] 5 ?_
          refine AWp.cnd (decide (rnumberM e3_ ((rfindM h e1_.key).1) e1_.value < 0)) (fun h18 => ?_) (fun h18 => ?_)
          ·
           have h18' := of_decide_eq_true h18
           refine AWp.hz [.run 2] 130 [(6, vs (⟨#[]⟩)), (7, vi 2)] [] 5 ?_
           refine AWp.ret ?_
           have hL1_ : (rencodeM_L1 c h l ([])) = .inl (⟨#[]⟩, 2) := loopS_ret hs1_ (by omega) (by unfold rencodeM_B1; (try dsimp only); (try simp only [he1_]); (try simp only [he3_]); (try rw [h3]); (try rw [h5]); (try rw [h14]); (try rw [h15]); (try rw [h16]); (try rw [h18]); first | done | kernel_rfl)
           exact leafR (r := .tuple [vs (⟨#[]⟩), vi 2]) (by show (.tuple [vs (⟨#[]⟩), vi 2] : AV) = .tuple [vs ((rencodeM c h l).1), vi ((rencodeM c h l).2)]; unfold rencodeM; (try rw [h1]); (try rw [hL1_]); (try dsimp only); first | done | kernel_rfl)
          ·
           have h18' := of_decide_eq_false h18
           refine AWp.skip ?_
           have ht19 : ((rencodeM_L2 c h l e1_ (-1, IntKind.i64.wrap (((c.fields.length : Nat) : Int) - 1))).1) = ((((rencodeM_L2 c h l e1_ (-1, IntKind.i64.wrap (((c.fields.length : Nat) : Int) - 1))).1).toNat : Nat) : Int) := (Int.toNat_of_nonneg (by omega)).symm
           refine AWp.he [.run 4, .slot 115 (vi ((rencodeM_L2 c h l e1_ (-1, IntKind.i64.wrap (((c.fields.length : Nat) : Int) - 1))).1)) (vi ((((rencodeM_L2 c h l e1_ (-1, IntKind.i64.wrap (((c.fields.length : Nat) : Int) - 1))).1).toNat : Nat) : Int)) (congrArg vi ht19), .idx FieldV.cells c.fields 6 (((rencodeM_L2 c h l e1_ (-1, IntKind.i64.wrap (((c.fields.length : Nat) : Int) - 1))).1).toNat) e3_ he3_, .run 9, .lit 5 1 (List.map u8C [IntKind.u8.wrap e3_.code, IntKind.u8.wrap (IntKind.i64.wrap ((rnumberM e3_ ((rfindM h e1_.key).1) e1_.value).tdiv 256)), IntKind.u8.wrap ((rnumberM e3_ ((rfindM h e1_.key).1) e1_.value).tmod 256)]), .app u8C a1_0 ([IntKind.u8.wrap e3_.code, IntKind.u8.wrap (IntKind.i64.wrap ((rnumberM e3_ ((rfindM h e1_.key).1) e1_.value).tdiv 256)), IntKind.u8.wrap ((rnumberM e3_ ((rfindM h e1_.key).1) e1_.value).tmod 256)]) 2 5 1 1 (apSz (by simp; omega)), .run 1] 130 [(2, .rv (.sl 7 (l.map ItemV.cells))), (3, .ptr 0 0), (4, .ptr 1 0), (8, .sl 2), (9, vi ((k1_ : Nat) : Int))] [(2, .row false 5 1 ((a1_0 ++ [IntKind.u8.wrap e3_.code, IntKind.u8.wrap (IntKind.i64.wrap ((rnumberM e3_ ((rfindM h e1_.key).1) e1_.value).tdiv 256)), IntKind.u8.wrap ((rnumberM e3_ ((rfindM h e1_.key).1) e1_.value).tmod 256)]).map u8C)), (1, .box 28 (avs (Home.cells h))), (0, .box 24 (avs (Codec.cells c)))] 5 ?_
           refine AWp.he [.run 1, .cast (vi (IntKind.i64.wrap (((k1_ : Nat) : Int) + 1))) (vi ((k1_ + 1 : Nat) : Int)) (congrArg vi (wrap_nat (by omega))), .run 1] 130 [(2, .rv (.sl 7 (l.map ItemV.cells))), (3, .ptr 0 0), (4, .ptr 1 0), (8, .sl 2), (9, vi ((k1_ + 1 : Nat) : Int))] [(2, .row false 5 1 ((a1_0 ++ [IntKind.u8.wrap e3_.code, IntKind.u8.wrap (IntKind.i64.wrap ((rnumberM e3_ ((rfindM h e1_.key).1) e1_.value).tdiv 256)), IntKind.u8.wrap ((rnumberM e3_ ((rfindM h e1_.key).1) e1_.value).tmod 256)]).map u8C)), (1, .box 28 (avs (Home.cells h))), (0, .box 24 (avs (Codec.cells c)))] 5 ?_
           exact ⟨(k1_ + 1, ((a1_0 ++ [IntKind.u8.wrap e3_.code, IntKind.u8.wrap (IntKind.i64.wrap ((rnumberM e3_ ((rfindM h e1_.key).1) e1_.value).tdiv 256)), IntKind.u8.wrap ((rnumberM e3_ ((rfindM h e1_.key).1) e1_.value).tmod 256)]))), ⟨by show k1_ + 1 ≤ _; omega, loopS_next hs1_ (by omega) (by unfold rencodeM_B1; (try dsimp only); (try simp only [he1_]); (try simp only [he3_]); (try rw [h3]); (try rw [h5]); (try rw [h14]); (try rw [h15]); (try rw [h16]); (try rw [h18]); first | done | kernel_rfl), by simp only [List.length_append, List.length_cons, List.length_nil]; omega⟩, by show _ - (k1_ + 1) < _ - k1_; omega, leG⟩
         ·
          refine AWp.skip ?_
          refine AWp.seq ?_
          refine AWp.hz [.run 2] 130 [(2, .rv (.sl 7 (l.map ItemV.cells))), (3, .ptr 0 0), (4, .ptr 1 0), (8, .sl 2), (9, vi ((k1_ : Nat) : Int)), (13, vi ((rencodeM_L2 c h l e1_ (-1, IntKind.i64.wrap (((c.fields.length : Nat) : Int) - 1))).1)), (15, vi e1_.value.n), (111, vb (decide (e1_.value.n < 0)))] [(2, .row false 5 1 (a1_0.map u8C)), (1, .box 28 (avs (Home.cells h))), (0, .box 24 (avs (Codec.cells c)))] 5 ?_
          refine AWp.cnd (decide (e1_.value.n < 0)) (fun h20 => ?_) (fun h20 => ?_)
          ·
           have h20' := of_decide_eq_true h20
           refine AWp.hz [.run 2] 130 [(6, vs (⟨#[]⟩)), (7, vi 2)] [] 5 ?_
           refine AWp.ret ?_
           have hL1_ : (rencodeM_L1 c h l ([])) = .inl (⟨#[]⟩, 2) := loopS_ret hs1_ (by omega) (by unfold rencodeM_B1; (try dsimp only); (try simp only [he1_]); (try rw [h3]); (try rw [h5]); (try rw [h14]); (try rw [h15]); (try rw [h16]); (try rw [h20]); first | done | kernel_rfl)
           exact leafR (r := .tuple [vs (⟨#[]⟩), vi 2]) (by show (.tuple [vs (⟨#[]⟩), vi 2] : AV) = .tuple [vs ((rencodeM c h l).1), vi ((rencodeM c h l).2)]; unfold rencodeM; (try rw [h1]); (try rw [hL1_]); (try dsimp only); first | done | kernel_rfl)
          ·
           have h20' := of_decide_eq_false h20
           refine AWp.skip ?_
           have ht21 : ((rencodeM_L2 c h l e1_ (-1, IntKind.i64.wrap (((c.fields.length : Nat) : Int) - 1))).1) = ((((rencodeM_L2 c h l e1_ (-1, IntKind.i64.wrap (((c.fields.length : Nat) : Int) - 1))).1).toNat : Nat) : Int) := (Int.toNat_of_nonneg (by omega)).symm
           obtain ⟨e3_, he3_⟩ := getEx (l := c.fields) (j := ((rencodeM_L2 c h l e1_ (-1, IntKind.i64.wrap (((c.fields.length : Nat) : Int) - 1))).1).toNat) (by omega)
           refine AWp.he [.run 4, .slot 115 (vi ((rencodeM_L2 c h l e1_ (-1, IntKind.i64.wrap (((c.fields.length : Nat) : Int) - 1))).1)) (vi ((((rencodeM_L2 c h l e1_ (-1, IntKind.i64.wrap (((c.fields.length : Nat) : Int) - 1))).1).toNat : Nat) : Int)) (congrArg vi ht21), .idx FieldV.cells c.fields 6 (((rencodeM_L2 c h l e1_ (-1, IntKind.i64.wrap (((c.fields.length : Nat) : Int) - 1))).1).toNat) e3_ he3_, .run 9, .lit 5 1 (List.map u8C [IntKind.u8.wrap e3_.code, IntKind.u8.wrap (IntKind.i64.wrap (e1_.value.n.tdiv 256)), IntKind.u8.wrap (e1_.value.n.tmod 256)]), .app u8C a1_0 ([IntKind.u8.wrap e3_.code, IntKind.u8.wrap (IntKind.i64.wrap (e1_.value.n.tdiv 256)), IntKind.u8.wrap (e1_.value.n.tmod 256)]) 2 5 1 1 (apSz (by simp; omega)), .run 1] 130 [(2, .rv (.sl 7 (l.map ItemV.cells))), (3, .ptr 0 0), (4, .ptr 1 0), (8, .sl 2), (9, vi ((k1_ : Nat) : Int))] [(2, .row false 5 1 ((a1_0 ++ [IntKind.u8.wrap e3_.code, IntKind.u8.wrap (IntKind.i64.wrap (e1_.value.n.tdiv 256)), IntKind.u8.wrap (e1_.value.n.tmod 256)]).map u8C)), (1, .box 28 (avs (Home.cells h))), (0, .box 24 (avs (Codec.cells c)))] 5 ?_
           refine AWp.he [.run 1, .cast (vi (IntKind.i64.wrap (((k1_ : Nat) : Int) + 1))) (vi ((k1_ + 1 : Nat) : Int)) (congrArg vi (wrap_nat (by omega))), .run 1] 130 [(2, .rv (.sl 7 (l.map ItemV.cells))), (3, .ptr 0 0), (4, .ptr 1 0), (8, .sl 2), (9, vi ((k1_ + 1 : Nat) : Int))] [(2, .row false 5 1 ((a1_0 ++ [IntKind.u8.wrap e3_.code, IntKind.u8.wrap (IntKind.i64.wrap (e1_.value.n.tdiv 256)), IntKind.u8.wrap (e1_.value.n.tmod 256)]).map u8C)), (1, .box 28 (avs (Home.cells h))), (0, .box 24 (avs (Codec.cells c)))] 5 ?_
           exact ⟨(k1_ + 1, ((a1_0 ++ [IntKind.u8.wrap e3_.code, IntKind.u8.wrap (IntKind.i64.wrap (e1_.value.n.tdiv 256)), IntKind.u8.wrap (e1_.value.n.tmod 256)]))), ⟨by show k1_ + 1 ≤ _; omega, loopS_next hs1_ (by omega) (by unfold rencodeM_B1; (try dsimp only); (try simp only [he1_]); (try simp only [he3_]); (try rw [h3]); (try rw [h5]); (try rw [h14]); (try rw [h15]); (try rw [h16]); (try rw [h20]); first | done | kernel_rfl), by simp only [List.length_append, List.length_cons, List.length_nil]; omega⟩, by show _ - (k1_ + 1) < _ - k1_; omega, leG⟩
   ·
    have h3' := of_decide_eq_false h3
    refine AWp.exit ?_
    have hq1_ : (rencodeM_L1 c h l ([])) = .inr (a1_0) := loopS_end hs1_ (by omega)
    exact ⟨(a1_0), hq1_, leG⟩
  ·
   rintro a1_0 hL1_
   refine AWp.rg ?_
   refine AOps.hz [.run 1] 130 [(128, .sl 2)] [(2, .row false 5 1 (a1_0.map u8C))] 3 ?_
   refine AOps.str a1_0 (.tmp 128) ?_
   refine AOps.he [.run 2] 130 [(6, vs (bytesOf a1_0)), (7, vi 0)] [] 3 ?_
   refine AWp.ret ?_
   exact leafR (r := .tuple [vs (bytesOf a1_0), vi 0]) (by show (.tuple [vs (bytesOf a1_0), vi 0] : AV) = .tuple [vs ((rencodeM c h l).1), vi ((rencodeM c h l).2)]; unfold rencodeM; (try rw [h1]); (try rw [hL1_]); (try dsimp only); first | done | kernel_rfl)
end Go.Proofs.Ytmjimhkbehoomaa
