/- The examples of the chapter, what the statements compute. -/
import Derived.Test.YtmjimhkbehoomaaUQk
namespace Go.Proofs.Ytmjimhkbehoomaa
open Go Go.Av Go.Hh Go.Proofs
set_option maxRecDepth 100000
set_option maxHeartbeats 4000000
def awakeM  : Bool :=
  (((venCheckM (⟨3, [(⟨⟨#[104, 101, 97, 116]⟩, ⟨#[116, 101, 109, 112]⟩, 1, 5, -400, []⟩ : FieldV)]⟩ : Codec) (⟨[(⟨⟨#[104, 101, 97, 116]⟩, [(⟨⟨#[116, 101, 109, 112]⟩, 2, -500, 1000, [], false, false⟩ : Attr)], [], []⟩ : Cluster)], [(⟨7, 1, 3, false, 0, ⟨#[104, 97, 108, 108]⟩, [⟨#[104, 101, 97, 116]⟩]⟩ : Dev)]⟩ : Home) == 0) && ((((decodeM (⟨3, [(⟨⟨#[104, 101, 97, 116]⟩, ⟨#[116, 101, 109, 112]⟩, 1, 5, -400, []⟩ : FieldV)]⟩ : Codec) (⟨[(⟨⟨#[104, 101, 97, 116]⟩, [(⟨⟨#[116, 101, 109, 112]⟩, 2, -500, 1000, [], false, false⟩ : Attr)], [], []⟩ : Cluster)], [(⟨7, 1, 3, false, 0, ⟨#[104, 97, 108, 108]⟩, [⟨#[104, 101, 97, 116]⟩]⟩ : Dev)]⟩ : Home) 7 (⟨#[1, 3, 233, 1, 255, 255]⟩)).2) == 0) && (sameItemsM ((decodeM (⟨3, [(⟨⟨#[104, 101, 97, 116]⟩, ⟨#[116, 101, 109, 112]⟩, 1, 5, -400, []⟩ : FieldV)]⟩ : Codec) (⟨[(⟨⟨#[104, 101, 97, 116]⟩, [(⟨⟨#[116, 101, 109, 112]⟩, 2, -500, 1000, [], false, false⟩ : Attr)], [], []⟩ : Cluster)], [(⟨7, 1, 3, false, 0, ⟨#[104, 97, 108, 108]⟩, [⟨#[104, 101, 97, 116]⟩]⟩ : Dev)]⟩ : Home) 7 (⟨#[1, 3, 233, 1, 255, 255]⟩)).1) ([(⟨⟨7, ⟨#[104, 101, 97, 116]⟩, ⟨#[116, 101, 109, 112]⟩⟩, ⟨2, 100, ⟨#[]⟩⟩, 0⟩ : ItemV), (⟨⟨7, ⟨#[104, 101, 97, 116]⟩, ⟨#[116, 101, 109, 112]⟩⟩, ⟨2, -401, ⟨#[]⟩⟩, 0⟩ : ItemV)]) && beqS ((encodeM (⟨3, [(⟨⟨#[104, 101, 97, 116]⟩, ⟨#[116, 101, 109, 112]⟩, 1, 5, -400, []⟩ : FieldV)]⟩ : Codec) (⟨[(⟨⟨#[104, 101, 97, 116]⟩, [(⟨⟨#[116, 101, 109, 112]⟩, 2, -500, 1000, [], false, false⟩ : Attr)], [], []⟩ : Cluster)], [(⟨7, 1, 3, false, 0, ⟨#[104, 97, 108, 108]⟩, [⟨#[104, 101, 97, 116]⟩]⟩ : Dev)]⟩ : Home) ([(⟨⟨7, ⟨#[104, 101, 97, 116]⟩, ⟨#[116, 101, 109, 112]⟩⟩, ⟨2, 100, ⟨#[]⟩⟩, 5⟩ : ItemV)])).1) (⟨#[1, 3, 232]⟩)))) && (((encodeM (⟨3, [(⟨⟨#[104, 101, 97, 116]⟩, ⟨#[116, 101, 109, 112]⟩, 1, 5, -400, []⟩ : FieldV)]⟩ : Codec) (⟨[(⟨⟨#[104, 101, 97, 116]⟩, [(⟨⟨#[116, 101, 109, 112]⟩, 2, -500, 1000, [], false, false⟩ : Attr)], [], []⟩ : Cluster)], [(⟨7, 1, 3, false, 0, ⟨#[104, 97, 108, 108]⟩, [⟨#[104, 101, 97, 116]⟩]⟩ : Dev)]⟩ : Home) ([(⟨⟨7, ⟨#[104, 101, 97, 116]⟩, ⟨#[116, 101, 109, 112]⟩⟩, ⟨2, 100, ⟨#[]⟩⟩, 5⟩ : ItemV)])).2) == 0))
theorem awakeM_ok  :
 ACalls Try.prog G_ 9 [] [] 0 (fun r τ => r = vb (awakeM ) ∧ τ = []) := by
 refine ACalls.body Try.func9 rfl 63 [] ?_
 refine AWp.hz [.run 1] 63 [] [] 0 ?_
 refine AWp.hz [.run 1, .nils 8 [none, none, none, none, some 1, none, none], .lit 51 7 (List.map Attr.cells [(⟨⟨#[116, 101, 109, 112]⟩, 2, -500, 1000, [], false, false⟩ : Attr)]), .run 1, .nils 10 [none, none, some 9, some 1], .lit 58 4 (List.map Cluster.cells [(⟨⟨#[104, 101, 97, 116]⟩, [(⟨⟨#[116, 101, 109, 112]⟩, 2, -500, 1000, [], false, false⟩ : Attr)], [], []⟩ : Cluster)]), .lit 9 1 (List.map strC [⟨#[104, 101, 97, 116]⟩]), .run 1, .lit 61 7 (List.map Dev.cells [(⟨7, 1, 3, false, 0, ⟨#[104, 97, 108, 108]⟩, [⟨#[104, 101, 97, 116]⟩]⟩ : Dev)]), .run 3] 63 [(1, .ptr 0 0)] [(0, .box 28 [.rv (.sl 4 (([(⟨⟨#[104, 101, 97, 116]⟩, [(⟨⟨#[116, 101, 109, 112]⟩, 2, -500, 1000, [], false, false⟩ : Attr)], [], []⟩ : Cluster)]).map Cluster.cells)), .rv (.sl 7 (([(⟨7, 1, 3, false, 0, ⟨#[104, 97, 108, 108]⟩, [⟨#[104, 101, 97, 116]⟩]⟩ : Dev)]).map Dev.cells))])] 1 ?_
 refine AWp.hz [.run 1, .nils 16 [none, none, none, none, none, some 1], .lit 64 6 (List.map FieldV.cells [(⟨⟨#[104, 101, 97, 116]⟩, ⟨#[116, 101, 109, 112]⟩, 1, 5, -400, []⟩ : FieldV)]), .run 3] 63 [(1, .ptr 0 0), (2, .ptr 1 0)] [(1, .box 24 [vi 3, .rv (.sl 6 (([(⟨⟨#[104, 101, 97, 116]⟩, ⟨#[116, 101, 109, 112]⟩, 1, 5, -400, []⟩ : FieldV)]).map FieldV.cells))]), (0, .box 28 [.rv (.sl 4 (([(⟨⟨#[104, 101, 97, 116]⟩, [(⟨⟨#[116, 101, 109, 112]⟩, 2, -500, 1000, [], false, false⟩ : Attr)], [], []⟩ : Cluster)]).map Cluster.cells)), .rv (.sl 7 (([(⟨7, 1, 3, false, 0, ⟨#[104, 97, 108, 108]⟩, [⟨#[104, 101, 97, 116]⟩]⟩ : Dev)]).map Dev.cells))])] 2 ?_
 refine AWp.hz [.run 3] 63 [(1, .ptr 0 0), (2, .ptr 1 0), (3, .ptr 2 0)] [(2, .box 44 [vi 7, vs (⟨#[104, 101, 97, 116]⟩), vs (⟨#[116, 101, 109, 112]⟩)]), (1, .box 24 [vi 3, .rv (.sl 6 (([(⟨⟨#[104, 101, 97, 116]⟩, ⟨#[116, 101, 109, 112]⟩, 1, 5, -400, []⟩ : FieldV)]).map FieldV.cells))]), (0, .box 28 [.rv (.sl 4 (([(⟨⟨#[104, 101, 97, 116]⟩, [(⟨⟨#[116, 101, 109, 112]⟩, 2, -500, 1000, [], false, false⟩ : Attr)], [], []⟩ : Cluster)]).map Cluster.cells)), .rv (.sl 7 (([(⟨7, 1, 3, false, 0, ⟨#[104, 97, 108, 108]⟩, [⟨#[104, 101, 97, 116]⟩]⟩ : Dev)]).map Dev.cells))])] 3 ?_
 refine AWp.hz [.run 2, .call 12 [.agg [vi 3, .rv (.sl 6 (([(⟨⟨#[104, 101, 97, 116]⟩, ⟨#[116, 101, 109, 112]⟩, 1, 5, -400, []⟩ : FieldV)]).map FieldV.cells))], .agg [.rv (.sl 4 (([(⟨⟨#[104, 101, 97, 116]⟩, [(⟨⟨#[116, 101, 109, 112]⟩, 2, -500, 1000, [], false, false⟩ : Attr)], [], []⟩ : Cluster)]).map Cluster.cells)), .rv (.sl 7 (([(⟨7, 1, 3, false, 0, ⟨#[104, 97, 108, 108]⟩, [⟨#[104, 101, 97, 116]⟩]⟩ : Dev)]).map Dev.cells))], vi 7, vs (⟨#[1, 3, 233, 1, 255, 255]⟩)] (.tuple [.rv (.sl 7 (((decodeM (⟨3, [(⟨⟨#[104, 101, 97, 116]⟩, ⟨#[116, 101, 109, 112]⟩, 1, 5, -400, []⟩ : FieldV)]⟩ : Codec) (⟨[(⟨⟨#[104, 101, 97, 116]⟩, [(⟨⟨#[116, 101, 109, 112]⟩, 2, -500, 1000, [], false, false⟩ : Attr)], [], []⟩ : Cluster)], [(⟨7, 1, 3, false, 0, ⟨#[104, 97, 108, 108]⟩, [⟨#[104, 101, 97, 116]⟩]⟩ : Dev)]⟩ : Home) 7 (⟨#[1, 3, 233, 1, 255, 255]⟩)).1).map ItemV.cells)), vi ((decodeM (⟨3, [(⟨⟨#[104, 101, 97, 116]⟩, ⟨#[116, 101, 109, 112]⟩, 1, 5, -400, []⟩ : FieldV)]⟩ : Codec) (⟨[(⟨⟨#[104, 101, 97, 116]⟩, [(⟨⟨#[116, 101, 109, 112]⟩, 2, -500, 1000, [], false, false⟩ : Attr)], [], []⟩ : Cluster)], [(⟨7, 1, 3, false, 0, ⟨#[104, 97, 108, 108]⟩, [⟨#[104, 101, 97, 116]⟩]⟩ : Dev)]⟩ : Home) 7 (⟨#[1, 3, 233, 1, 255, 255]⟩)).2)]) [] 0 (decodeM_ok (⟨3, [(⟨⟨#[104, 101, 97, 116]⟩, ⟨#[116, 101, 109, 112]⟩, 1, 5, -400, []⟩ : FieldV)]⟩ : Codec) (⟨[(⟨⟨#[104, 101, 97, 116]⟩, [(⟨⟨#[116, 101, 109, 112]⟩, 2, -500, 1000, [], false, false⟩ : Attr)], [], []⟩ : Cluster)], [(⟨7, 1, 3, false, 0, ⟨#[104, 97, 108, 108]⟩, [⟨#[104, 101, 97, 116]⟩]⟩ : Dev)]⟩ : Home) 7 (⟨#[1, 3, 233, 1, 255, 255]⟩) (by first | exact Nat.le_of_ble_eq_true rfl | omega)), .run 5] 63 [(1, .ptr 0 0), (2, .ptr 1 0), (3, .ptr 2 0), (4, .rv (.sl 7 (((decodeM (⟨3, [(⟨⟨#[104, 101, 97, 116]⟩, ⟨#[116, 101, 109, 112]⟩, 1, 5, -400, []⟩ : FieldV)]⟩ : Codec) (⟨[(⟨⟨#[104, 101, 97, 116]⟩, [(⟨⟨#[116, 101, 109, 112]⟩, 2, -500, 1000, [], false, false⟩ : Attr)], [], []⟩ : Cluster)], [(⟨7, 1, 3, false, 0, ⟨#[104, 97, 108, 108]⟩, [⟨#[104, 101, 97, 116]⟩]⟩ : Dev)]⟩ : Home) 7 (⟨#[1, 3, 233, 1, 255, 255]⟩)).1).map ItemV.cells))), (5, vi ((decodeM (⟨3, [(⟨⟨#[104, 101, 97, 116]⟩, ⟨#[116, 101, 109, 112]⟩, 1, 5, -400, []⟩ : FieldV)]⟩ : Codec) (⟨[(⟨⟨#[104, 101, 97, 116]⟩, [(⟨⟨#[116, 101, 109, 112]⟩, 2, -500, 1000, [], false, false⟩ : Attr)], [], []⟩ : Cluster)], [(⟨7, 1, 3, false, 0, ⟨#[104, 97, 108, 108]⟩, [⟨#[104, 101, 97, 116]⟩]⟩ : Dev)]⟩ : Home) 7 (⟨#[1, 3, 233, 1, 255, 255]⟩)).2))] [(2, .box 44 [vi 7, vs (⟨#[104, 101, 97, 116]⟩), vs (⟨#[116, 101, 109, 112]⟩)]), (1, .box 24 [vi 3, .rv (.sl 6 (([(⟨⟨#[104, 101, 97, 116]⟩, ⟨#[116, 101, 109, 112]⟩, 1, 5, -400, []⟩ : FieldV)]).map FieldV.cells))]), (0, .box 28 [.rv (.sl 4 (([(⟨⟨#[104, 101, 97, 116]⟩, [(⟨⟨#[116, 101, 109, 112]⟩, 2, -500, 1000, [], false, false⟩ : Attr)], [], []⟩ : Cluster)]).map Cluster.cells)), .rv (.sl 7 (([(⟨7, 1, 3, false, 0, ⟨#[104, 97, 108, 108]⟩, [⟨#[104, 101, 97, 116]⟩]⟩ : Dev)]).map Dev.cells))])] 3 ?_
 refine AWp.hz [.run 5, .lit 48 7 (List.map ItemV.cells [(⟨⟨7, ⟨#[104, 101, 97, 116]⟩, ⟨#[116, 101, 109, 112]⟩⟩, ⟨2, 100, ⟨#[]⟩⟩, 5⟩ : ItemV)]), .call 15 [.agg [vi 3, .rv (.sl 6 (([(⟨⟨#[104, 101, 97, 116]⟩, ⟨#[116, 101, 109, 112]⟩, 1, 5, -400, []⟩ : FieldV)]).map FieldV.cells))], .agg [.rv (.sl 4 (([(⟨⟨#[104, 101, 97, 116]⟩, [(⟨⟨#[116, 101, 109, 112]⟩, 2, -500, 1000, [], false, false⟩ : Attr)], [], []⟩ : Cluster)]).map Cluster.cells)), .rv (.sl 7 (([(⟨7, 1, 3, false, 0, ⟨#[104, 97, 108, 108]⟩, [⟨#[104, 101, 97, 116]⟩]⟩ : Dev)]).map Dev.cells))], .rv (.sl 7 (([(⟨⟨7, ⟨#[104, 101, 97, 116]⟩, ⟨#[116, 101, 109, 112]⟩⟩, ⟨2, 100, ⟨#[]⟩⟩, 5⟩ : ItemV)]).map ItemV.cells))] (.tuple [vs ((encodeM (⟨3, [(⟨⟨#[104, 101, 97, 116]⟩, ⟨#[116, 101, 109, 112]⟩, 1, 5, -400, []⟩ : FieldV)]⟩ : Codec) (⟨[(⟨⟨#[104, 101, 97, 116]⟩, [(⟨⟨#[116, 101, 109, 112]⟩, 2, -500, 1000, [], false, false⟩ : Attr)], [], []⟩ : Cluster)], [(⟨7, 1, 3, false, 0, ⟨#[104, 97, 108, 108]⟩, [⟨#[104, 101, 97, 116]⟩]⟩ : Dev)]⟩ : Home) ([(⟨⟨7, ⟨#[104, 101, 97, 116]⟩, ⟨#[116, 101, 109, 112]⟩⟩, ⟨2, 100, ⟨#[]⟩⟩, 5⟩ : ItemV)])).1), vi ((encodeM (⟨3, [(⟨⟨#[104, 101, 97, 116]⟩, ⟨#[116, 101, 109, 112]⟩, 1, 5, -400, []⟩ : FieldV)]⟩ : Codec) (⟨[(⟨⟨#[104, 101, 97, 116]⟩, [(⟨⟨#[116, 101, 109, 112]⟩, 2, -500, 1000, [], false, false⟩ : Attr)], [], []⟩ : Cluster)], [(⟨7, 1, 3, false, 0, ⟨#[104, 97, 108, 108]⟩, [⟨#[104, 101, 97, 116]⟩]⟩ : Dev)]⟩ : Home) ([(⟨⟨7, ⟨#[104, 101, 97, 116]⟩, ⟨#[116, 101, 109, 112]⟩⟩, ⟨2, 100, ⟨#[]⟩⟩, 5⟩ : ItemV)])).2)]) [] 0 (encodeM_ok (⟨3, [(⟨⟨#[104, 101, 97, 116]⟩, ⟨#[116, 101, 109, 112]⟩, 1, 5, -400, []⟩ : FieldV)]⟩ : Codec) (⟨[(⟨⟨#[104, 101, 97, 116]⟩, [(⟨⟨#[116, 101, 109, 112]⟩, 2, -500, 1000, [], false, false⟩ : Attr)], [], []⟩ : Cluster)], [(⟨7, 1, 3, false, 0, ⟨#[104, 97, 108, 108]⟩, [⟨#[104, 101, 97, 116]⟩]⟩ : Dev)]⟩ : Home) ([(⟨⟨7, ⟨#[104, 101, 97, 116]⟩, ⟨#[116, 101, 109, 112]⟩⟩, ⟨2, 100, ⟨#[]⟩⟩, 5⟩ : ItemV)]) (by first | exact Nat.le_of_ble_eq_true rfl | omega)), .run 5] 63 [(1, .ptr 0 0), (2, .ptr 1 0), (3, .ptr 2 0), (4, .rv (.sl 7 (((decodeM (⟨3, [(⟨⟨#[104, 101, 97, 116]⟩, ⟨#[116, 101, 109, 112]⟩, 1, 5, -400, []⟩ : FieldV)]⟩ : Codec) (⟨[(⟨⟨#[104, 101, 97, 116]⟩, [(⟨⟨#[116, 101, 109, 112]⟩, 2, -500, 1000, [], false, false⟩ : Attr)], [], []⟩ : Cluster)], [(⟨7, 1, 3, false, 0, ⟨#[104, 97, 108, 108]⟩, [⟨#[104, 101, 97, 116]⟩]⟩ : Dev)]⟩ : Home) 7 (⟨#[1, 3, 233, 1, 255, 255]⟩)).1).map ItemV.cells))), (5, vi ((decodeM (⟨3, [(⟨⟨#[104, 101, 97, 116]⟩, ⟨#[116, 101, 109, 112]⟩, 1, 5, -400, []⟩ : FieldV)]⟩ : Codec) (⟨[(⟨⟨#[104, 101, 97, 116]⟩, [(⟨⟨#[116, 101, 109, 112]⟩, 2, -500, 1000, [], false, false⟩ : Attr)], [], []⟩ : Cluster)], [(⟨7, 1, 3, false, 0, ⟨#[104, 97, 108, 108]⟩, [⟨#[104, 101, 97, 116]⟩]⟩ : Dev)]⟩ : Home) 7 (⟨#[1, 3, 233, 1, 255, 255]⟩)).2)), (6, vs ((encodeM (⟨3, [(⟨⟨#[104, 101, 97, 116]⟩, ⟨#[116, 101, 109, 112]⟩, 1, 5, -400, []⟩ : FieldV)]⟩ : Codec) (⟨[(⟨⟨#[104, 101, 97, 116]⟩, [(⟨⟨#[116, 101, 109, 112]⟩, 2, -500, 1000, [], false, false⟩ : Attr)], [], []⟩ : Cluster)], [(⟨7, 1, 3, false, 0, ⟨#[104, 97, 108, 108]⟩, [⟨#[104, 101, 97, 116]⟩]⟩ : Dev)]⟩ : Home) ([(⟨⟨7, ⟨#[104, 101, 97, 116]⟩, ⟨#[116, 101, 109, 112]⟩⟩, ⟨2, 100, ⟨#[]⟩⟩, 5⟩ : ItemV)])).1)), (7, vi ((encodeM (⟨3, [(⟨⟨#[104, 101, 97, 116]⟩, ⟨#[116, 101, 109, 112]⟩, 1, 5, -400, []⟩ : FieldV)]⟩ : Codec) (⟨[(⟨⟨#[104, 101, 97, 116]⟩, [(⟨⟨#[116, 101, 109, 112]⟩, 2, -500, 1000, [], false, false⟩ : Attr)], [], []⟩ : Cluster)], [(⟨7, 1, 3, false, 0, ⟨#[104, 97, 108, 108]⟩, [⟨#[104, 101, 97, 116]⟩]⟩ : Dev)]⟩ : Home) ([(⟨⟨7, ⟨#[104, 101, 97, 116]⟩, ⟨#[116, 101, 109, 112]⟩⟩, ⟨2, 100, ⟨#[]⟩⟩, 5⟩ : ItemV)])).2))] [(2, .box 44 [vi 7, vs (⟨#[104, 101, 97, 116]⟩), vs (⟨#[116, 101, 109, 112]⟩)]), (1, .box 24 [vi 3, .rv (.sl 6 (([(⟨⟨#[104, 101, 97, 116]⟩, ⟨#[116, 101, 109, 112]⟩, 1, 5, -400, []⟩ : FieldV)]).map FieldV.cells))]), (0, .box 28 [.rv (.sl 4 (([(⟨⟨#[104, 101, 97, 116]⟩, [(⟨⟨#[116, 101, 109, 112]⟩, 2, -500, 1000, [], false, false⟩ : Attr)], [], []⟩ : Cluster)]).map Cluster.cells)), .rv (.sl 7 (([(⟨7, 1, 3, false, 0, ⟨#[104, 97, 108, 108]⟩, [⟨#[104, 101, 97, 116]⟩]⟩ : Dev)]).map Dev.cells))])] 3 ?_
 refine AWp.join (Z 63 [(0, vb (((venCheckM (⟨3, [(⟨⟨#[104, 101, 97, 116]⟩, ⟨#[116, 101, 109, 112]⟩, 1, 5, -400, []⟩ : FieldV)]⟩ : Codec) (⟨[(⟨⟨#[104, 101, 97, 116]⟩, [(⟨⟨#[116, 101, 109, 112]⟩, 2, -500, 1000, [], false, false⟩ : Attr)], [], []⟩ : Cluster)], [(⟨7, 1, 3, false, 0, ⟨#[104, 97, 108, 108]⟩, [⟨#[104, 101, 97, 116]⟩]⟩ : Dev)]⟩ : Home) == 0) && ((((decodeM (⟨3, [(⟨⟨#[104, 101, 97, 116]⟩, ⟨#[116, 101, 109, 112]⟩, 1, 5, -400, []⟩ : FieldV)]⟩ : Codec) (⟨[(⟨⟨#[104, 101, 97, 116]⟩, [(⟨⟨#[116, 101, 109, 112]⟩, 2, -500, 1000, [], false, false⟩ : Attr)], [], []⟩ : Cluster)], [(⟨7, 1, 3, false, 0, ⟨#[104, 97, 108, 108]⟩, [⟨#[104, 101, 97, 116]⟩]⟩ : Dev)]⟩ : Home) 7 (⟨#[1, 3, 233, 1, 255, 255]⟩)).2) == 0) && (sameItemsM ((decodeM (⟨3, [(⟨⟨#[104, 101, 97, 116]⟩, ⟨#[116, 101, 109, 112]⟩, 1, 5, -400, []⟩ : FieldV)]⟩ : Codec) (⟨[(⟨⟨#[104, 101, 97, 116]⟩, [(⟨⟨#[116, 101, 109, 112]⟩, 2, -500, 1000, [], false, false⟩ : Attr)], [], []⟩ : Cluster)], [(⟨7, 1, 3, false, 0, ⟨#[104, 97, 108, 108]⟩, [⟨#[104, 101, 97, 116]⟩]⟩ : Dev)]⟩ : Home) 7 (⟨#[1, 3, 233, 1, 255, 255]⟩)).1) ([(⟨⟨7, ⟨#[104, 101, 97, 116]⟩, ⟨#[116, 101, 109, 112]⟩⟩, ⟨2, 100, ⟨#[]⟩⟩, 0⟩ : ItemV), (⟨⟨7, ⟨#[104, 101, 97, 116]⟩, ⟨#[116, 101, 109, 112]⟩⟩, ⟨2, -401, ⟨#[]⟩⟩, 0⟩ : ItemV)]) && beqS ((encodeM (⟨3, [(⟨⟨#[104, 101, 97, 116]⟩, ⟨#[116, 101, 109, 112]⟩, 1, 5, -400, []⟩ : FieldV)]⟩ : Codec) (⟨[(⟨⟨#[104, 101, 97, 116]⟩, [(⟨⟨#[116, 101, 109, 112]⟩, 2, -500, 1000, [], false, false⟩ : Attr)], [], []⟩ : Cluster)], [(⟨7, 1, 3, false, 0, ⟨#[104, 97, 108, 108]⟩, [⟨#[104, 101, 97, 116]⟩]⟩ : Dev)]⟩ : Home) ([(⟨⟨7, ⟨#[104, 101, 97, 116]⟩, ⟨#[116, 101, 109, 112]⟩⟩, ⟨2, 100, ⟨#[]⟩⟩, 5⟩ : ItemV)])).1) (⟨#[1, 3, 232]⟩)))) && (((encodeM (⟨3, [(⟨⟨#[104, 101, 97, 116]⟩, ⟨#[116, 101, 109, 112]⟩, 1, 5, -400, []⟩ : FieldV)]⟩ : Codec) (⟨[(⟨⟨#[104, 101, 97, 116]⟩, [(⟨⟨#[116, 101, 109, 112]⟩, 2, -500, 1000, [], false, false⟩ : Attr)], [], []⟩ : Cluster)], [(⟨7, 1, 3, false, 0, ⟨#[104, 97, 108, 108]⟩, [⟨#[104, 101, 97, 116]⟩]⟩ : Dev)]⟩ : Home) ([(⟨⟨7, ⟨#[104, 101, 97, 116]⟩, ⟨#[116, 101, 109, 112]⟩⟩, ⟨2, 100, ⟨#[]⟩⟩, 5⟩ : ItemV)])).2) == 0)))] [] 3) ?_ ?_
 ·
  refine AWp.region ?_
  refine AOps.hg [.run 2, .call 10 [.agg [vi 3, .rv (.sl 6 (([(⟨⟨#[104, 101, 97, 116]⟩, ⟨#[116, 101, 109, 112]⟩, 1, 5, -400, []⟩ : FieldV)]).map FieldV.cells))], .agg [.rv (.sl 4 (([(⟨⟨#[104, 101, 97, 116]⟩, [(⟨⟨#[116, 101, 109, 112]⟩, 2, -500, 1000, [], false, false⟩ : Attr)], [], []⟩ : Cluster)]).map Cluster.cells)), .rv (.sl 7 (([(⟨7, 1, 3, false, 0, ⟨#[104, 97, 108, 108]⟩, [⟨#[104, 101, 97, 116]⟩]⟩ : Dev)]).map Dev.cells))]] (vi (venCheckM (⟨3, [(⟨⟨#[104, 101, 97, 116]⟩, ⟨#[116, 101, 109, 112]⟩, 1, 5, -400, []⟩ : FieldV)]⟩ : Codec) (⟨[(⟨⟨#[104, 101, 97, 116]⟩, [(⟨⟨#[116, 101, 109, 112]⟩, 2, -500, 1000, [], false, false⟩ : Attr)], [], []⟩ : Cluster)], [(⟨7, 1, 3, false, 0, ⟨#[104, 97, 108, 108]⟩, [⟨#[104, 101, 97, 116]⟩]⟩ : Dev)]⟩ : Home))) [] 0 (venCheckM_ok (⟨3, [(⟨⟨#[104, 101, 97, 116]⟩, ⟨#[116, 101, 109, 112]⟩, 1, 5, -400, []⟩ : FieldV)]⟩ : Codec) (⟨[(⟨⟨#[104, 101, 97, 116]⟩, [(⟨⟨#[116, 101, 109, 112]⟩, 2, -500, 1000, [], false, false⟩ : Attr)], [], []⟩ : Cluster)], [(⟨7, 1, 3, false, 0, ⟨#[104, 97, 108, 108]⟩, [⟨#[104, 101, 97, 116]⟩]⟩ : Dev)]⟩ : Home)), .run 2] ((venCheckM (⟨3, [(⟨⟨#[104, 101, 97, 116]⟩, ⟨#[116, 101, 109, 112]⟩, 1, 5, -400, []⟩ : FieldV)]⟩ : Codec) (⟨[(⟨⟨#[104, 101, 97, 116]⟩, [(⟨⟨#[116, 101, 109, 112]⟩, 2, -500, 1000, [], false, false⟩ : Attr)], [], []⟩ : Cluster)], [(⟨7, 1, 3, false, 0, ⟨#[104, 97, 108, 108]⟩, [⟨#[104, 101, 97, 116]⟩]⟩ : Dev)]⟩ : Home) == 0)) 63 (fun b_ => [(3, .ptr 2 0), (4, .rv (.sl 7 (((decodeM (⟨3, [(⟨⟨#[104, 101, 97, 116]⟩, ⟨#[116, 101, 109, 112]⟩, 1, 5, -400, []⟩ : FieldV)]⟩ : Codec) (⟨[(⟨⟨#[104, 101, 97, 116]⟩, [(⟨⟨#[116, 101, 109, 112]⟩, 2, -500, 1000, [], false, false⟩ : Attr)], [], []⟩ : Cluster)], [(⟨7, 1, 3, false, 0, ⟨#[104, 97, 108, 108]⟩, [⟨#[104, 101, 97, 116]⟩]⟩ : Dev)]⟩ : Home) 7 (⟨#[1, 3, 233, 1, 255, 255]⟩)).1).map ItemV.cells))), (5, vi ((decodeM (⟨3, [(⟨⟨#[104, 101, 97, 116]⟩, ⟨#[116, 101, 109, 112]⟩, 1, 5, -400, []⟩ : FieldV)]⟩ : Codec) (⟨[(⟨⟨#[104, 101, 97, 116]⟩, [(⟨⟨#[116, 101, 109, 112]⟩, 2, -500, 1000, [], false, false⟩ : Attr)], [], []⟩ : Cluster)], [(⟨7, 1, 3, false, 0, ⟨#[104, 97, 108, 108]⟩, [⟨#[104, 101, 97, 116]⟩]⟩ : Dev)]⟩ : Home) 7 (⟨#[1, 3, 233, 1, 255, 255]⟩)).2)), (6, vs ((encodeM (⟨3, [(⟨⟨#[104, 101, 97, 116]⟩, ⟨#[116, 101, 109, 112]⟩, 1, 5, -400, []⟩ : FieldV)]⟩ : Codec) (⟨[(⟨⟨#[104, 101, 97, 116]⟩, [(⟨⟨#[116, 101, 109, 112]⟩, 2, -500, 1000, [], false, false⟩ : Attr)], [], []⟩ : Cluster)], [(⟨7, 1, 3, false, 0, ⟨#[104, 97, 108, 108]⟩, [⟨#[104, 101, 97, 116]⟩]⟩ : Dev)]⟩ : Home) ([(⟨⟨7, ⟨#[104, 101, 97, 116]⟩, ⟨#[116, 101, 109, 112]⟩⟩, ⟨2, 100, ⟨#[]⟩⟩, 5⟩ : ItemV)])).1)), (7, vi ((encodeM (⟨3, [(⟨⟨#[104, 101, 97, 116]⟩, ⟨#[116, 101, 109, 112]⟩, 1, 5, -400, []⟩ : FieldV)]⟩ : Codec) (⟨[(⟨⟨#[104, 101, 97, 116]⟩, [(⟨⟨#[116, 101, 109, 112]⟩, 2, -500, 1000, [], false, false⟩ : Attr)], [], []⟩ : Cluster)], [(⟨7, 1, 3, false, 0, ⟨#[104, 97, 108, 108]⟩, [⟨#[104, 101, 97, 116]⟩]⟩ : Dev)]⟩ : Home) ([(⟨⟨7, ⟨#[104, 101, 97, 116]⟩, ⟨#[116, 101, 109, 112]⟩⟩, ⟨2, 100, ⟨#[]⟩⟩, 5⟩ : ItemV)])).2)), (40, vb b_)]) [(2, .box 44 [vi 7, vs (⟨#[104, 101, 97, 116]⟩), vs (⟨#[116, 101, 109, 112]⟩)])] 3 (fun hg1 => ?_) (fun hg1 => ?_)
  ·
   refine AOps.hg [.run 4] ((((decodeM (⟨3, [(⟨⟨#[104, 101, 97, 116]⟩, ⟨#[116, 101, 109, 112]⟩, 1, 5, -400, []⟩ : FieldV)]⟩ : Codec) (⟨[(⟨⟨#[104, 101, 97, 116]⟩, [(⟨⟨#[116, 101, 109, 112]⟩, 2, -500, 1000, [], false, false⟩ : Attr)], [], []⟩ : Cluster)], [(⟨7, 1, 3, false, 0, ⟨#[104, 97, 108, 108]⟩, [⟨#[104, 101, 97, 116]⟩]⟩ : Dev)]⟩ : Home) 7 (⟨#[1, 3, 233, 1, 255, 255]⟩)).2) == 0)) 63 (fun b_ => [(3, .ptr 2 0), (4, .rv (.sl 7 (((decodeM (⟨3, [(⟨⟨#[104, 101, 97, 116]⟩, ⟨#[116, 101, 109, 112]⟩, 1, 5, -400, []⟩ : FieldV)]⟩ : Codec) (⟨[(⟨⟨#[104, 101, 97, 116]⟩, [(⟨⟨#[116, 101, 109, 112]⟩, 2, -500, 1000, [], false, false⟩ : Attr)], [], []⟩ : Cluster)], [(⟨7, 1, 3, false, 0, ⟨#[104, 97, 108, 108]⟩, [⟨#[104, 101, 97, 116]⟩]⟩ : Dev)]⟩ : Home) 7 (⟨#[1, 3, 233, 1, 255, 255]⟩)).1).map ItemV.cells))), (6, vs ((encodeM (⟨3, [(⟨⟨#[104, 101, 97, 116]⟩, ⟨#[116, 101, 109, 112]⟩, 1, 5, -400, []⟩ : FieldV)]⟩ : Codec) (⟨[(⟨⟨#[104, 101, 97, 116]⟩, [(⟨⟨#[116, 101, 109, 112]⟩, 2, -500, 1000, [], false, false⟩ : Attr)], [], []⟩ : Cluster)], [(⟨7, 1, 3, false, 0, ⟨#[104, 97, 108, 108]⟩, [⟨#[104, 101, 97, 116]⟩]⟩ : Dev)]⟩ : Home) ([(⟨⟨7, ⟨#[104, 101, 97, 116]⟩, ⟨#[116, 101, 109, 112]⟩⟩, ⟨2, 100, ⟨#[]⟩⟩, 5⟩ : ItemV)])).1)), (7, vi ((encodeM (⟨3, [(⟨⟨#[104, 101, 97, 116]⟩, ⟨#[116, 101, 109, 112]⟩, 1, 5, -400, []⟩ : FieldV)]⟩ : Codec) (⟨[(⟨⟨#[104, 101, 97, 116]⟩, [(⟨⟨#[116, 101, 109, 112]⟩, 2, -500, 1000, [], false, false⟩ : Attr)], [], []⟩ : Cluster)], [(⟨7, 1, 3, false, 0, ⟨#[104, 97, 108, 108]⟩, [⟨#[104, 101, 97, 116]⟩]⟩ : Dev)]⟩ : Home) ([(⟨⟨7, ⟨#[104, 101, 97, 116]⟩, ⟨#[116, 101, 109, 112]⟩⟩, ⟨2, 100, ⟨#[]⟩⟩, 5⟩ : ItemV)])).2)), (44, vb b_)]) [(2, .box 44 [vi 7, vs (⟨#[104, 101, 97, 116]⟩), vs (⟨#[116, 101, 109, 112]⟩)])] 3 (fun hg2 => ?_) (fun hg2 => ?_)
   ·
    refine AOps.hg [.run 7, .lit 48 7 (List.map ItemV.cells [(⟨⟨7, ⟨#[104, 101, 97, 116]⟩, ⟨#[116, 101, 109, 112]⟩⟩, ⟨2, 100, ⟨#[]⟩⟩, 0⟩ : ItemV), (⟨⟨7, ⟨#[104, 101, 97, 116]⟩, ⟨#[116, 101, 109, 112]⟩⟩, ⟨2, -401, ⟨#[]⟩⟩, 0⟩ : ItemV)]), .call 14 [.rv (.sl 7 (((decodeM (⟨3, [(⟨⟨#[104, 101, 97, 116]⟩, ⟨#[116, 101, 109, 112]⟩, 1, 5, -400, []⟩ : FieldV)]⟩ : Codec) (⟨[(⟨⟨#[104, 101, 97, 116]⟩, [(⟨⟨#[116, 101, 109, 112]⟩, 2, -500, 1000, [], false, false⟩ : Attr)], [], []⟩ : Cluster)], [(⟨7, 1, 3, false, 0, ⟨#[104, 97, 108, 108]⟩, [⟨#[104, 101, 97, 116]⟩]⟩ : Dev)]⟩ : Home) 7 (⟨#[1, 3, 233, 1, 255, 255]⟩)).1).map ItemV.cells)), .rv (.sl 7 (([(⟨⟨7, ⟨#[104, 101, 97, 116]⟩, ⟨#[116, 101, 109, 112]⟩⟩, ⟨2, 100, ⟨#[]⟩⟩, 0⟩ : ItemV), (⟨⟨7, ⟨#[104, 101, 97, 116]⟩, ⟨#[116, 101, 109, 112]⟩⟩, ⟨2, -401, ⟨#[]⟩⟩, 0⟩ : ItemV)]).map ItemV.cells))] (vb (sameItemsM ((decodeM (⟨3, [(⟨⟨#[104, 101, 97, 116]⟩, ⟨#[116, 101, 109, 112]⟩, 1, 5, -400, []⟩ : FieldV)]⟩ : Codec) (⟨[(⟨⟨#[104, 101, 97, 116]⟩, [(⟨⟨#[116, 101, 109, 112]⟩, 2, -500, 1000, [], false, false⟩ : Attr)], [], []⟩ : Cluster)], [(⟨7, 1, 3, false, 0, ⟨#[104, 97, 108, 108]⟩, [⟨#[104, 101, 97, 116]⟩]⟩ : Dev)]⟩ : Home) 7 (⟨#[1, 3, 233, 1, 255, 255]⟩)).1) ([(⟨⟨7, ⟨#[104, 101, 97, 116]⟩, ⟨#[116, 101, 109, 112]⟩⟩, ⟨2, 100, ⟨#[]⟩⟩, 0⟩ : ItemV), (⟨⟨7, ⟨#[104, 101, 97, 116]⟩, ⟨#[116, 101, 109, 112]⟩⟩, ⟨2, -401, ⟨#[]⟩⟩, 0⟩ : ItemV)]))) [] 0 (sameItemsM_ok ((decodeM (⟨3, [(⟨⟨#[104, 101, 97, 116]⟩, ⟨#[116, 101, 109, 112]⟩, 1, 5, -400, []⟩ : FieldV)]⟩ : Codec) (⟨[(⟨⟨#[104, 101, 97, 116]⟩, [(⟨⟨#[116, 101, 109, 112]⟩, 2, -500, 1000, [], false, false⟩ : Attr)], [], []⟩ : Cluster)], [(⟨7, 1, 3, false, 0, ⟨#[104, 97, 108, 108]⟩, [⟨#[104, 101, 97, 116]⟩]⟩ : Dev)]⟩ : Home) 7 (⟨#[1, 3, 233, 1, 255, 255]⟩)).1) ([(⟨⟨7, ⟨#[104, 101, 97, 116]⟩, ⟨#[116, 101, 109, 112]⟩⟩, ⟨2, 100, ⟨#[]⟩⟩, 0⟩ : ItemV), (⟨⟨7, ⟨#[104, 101, 97, 116]⟩, ⟨#[116, 101, 109, 112]⟩⟩, ⟨2, -401, ⟨#[]⟩⟩, 0⟩ : ItemV)])), .run 2] (sameItemsM ((decodeM (⟨3, [(⟨⟨#[104, 101, 97, 116]⟩, ⟨#[116, 101, 109, 112]⟩, 1, 5, -400, []⟩ : FieldV)]⟩ : Codec) (⟨[(⟨⟨#[104, 101, 97, 116]⟩, [(⟨⟨#[116, 101, 109, 112]⟩, 2, -500, 1000, [], false, false⟩ : Attr)], [], []⟩ : Cluster)], [(⟨7, 1, 3, false, 0, ⟨#[104, 97, 108, 108]⟩, [⟨#[104, 101, 97, 116]⟩]⟩ : Dev)]⟩ : Home) 7 (⟨#[1, 3, 233, 1, 255, 255]⟩)).1) ([(⟨⟨7, ⟨#[104, 101, 97, 116]⟩, ⟨#[116, 101, 109, 112]⟩⟩, ⟨2, 100, ⟨#[]⟩⟩, 0⟩ : ItemV), (⟨⟨7, ⟨#[104, 101, 97, 116]⟩, ⟨#[116, 101, 109, 112]⟩⟩, ⟨2, -401, ⟨#[]⟩⟩, 0⟩ : ItemV)])) 63 (fun b_ => [(6, vs ((encodeM (⟨3, [(⟨⟨#[104, 101, 97, 116]⟩, ⟨#[116, 101, 109, 112]⟩, 1, 5, -400, []⟩ : FieldV)]⟩ : Codec) (⟨[(⟨⟨#[104, 101, 97, 116]⟩, [(⟨⟨#[116, 101, 109, 112]⟩, 2, -500, 1000, [], false, false⟩ : Attr)], [], []⟩ : Cluster)], [(⟨7, 1, 3, false, 0, ⟨#[104, 97, 108, 108]⟩, [⟨#[104, 101, 97, 116]⟩]⟩ : Dev)]⟩ : Home) ([(⟨⟨7, ⟨#[104, 101, 97, 116]⟩, ⟨#[116, 101, 109, 112]⟩⟩, ⟨2, 100, ⟨#[]⟩⟩, 5⟩ : ItemV)])).1)), (7, vi ((encodeM (⟨3, [(⟨⟨#[104, 101, 97, 116]⟩, ⟨#[116, 101, 109, 112]⟩, 1, 5, -400, []⟩ : FieldV)]⟩ : Codec) (⟨[(⟨⟨#[104, 101, 97, 116]⟩, [(⟨⟨#[116, 101, 109, 112]⟩, 2, -500, 1000, [], false, false⟩ : Attr)], [], []⟩ : Cluster)], [(⟨7, 1, 3, false, 0, ⟨#[104, 97, 108, 108]⟩, [⟨#[104, 101, 97, 116]⟩]⟩ : Dev)]⟩ : Home) ([(⟨⟨7, ⟨#[104, 101, 97, 116]⟩, ⟨#[116, 101, 109, 112]⟩⟩, ⟨2, 100, ⟨#[]⟩⟩, 5⟩ : ItemV)])).2)), (55, vb b_)]) [] 3 (fun hg3 => ?_) (fun hg3 => ?_)
    ·
     refine AOps.hg [.run 4] (beqS ((encodeM (⟨3, [(⟨⟨#[104, 101, 97, 116]⟩, ⟨#[116, 101, 109, 112]⟩, 1, 5, -400, []⟩ : FieldV)]⟩ : Codec) (⟨[(⟨⟨#[104, 101, 97, 116]⟩, [(⟨⟨#[116, 101, 109, 112]⟩, 2, -500, 1000, [], false, false⟩ : Attr)], [], []⟩ : Cluster)], [(⟨7, 1, 3, false, 0, ⟨#[104, 97, 108, 108]⟩, [⟨#[104, 101, 97, 116]⟩]⟩ : Dev)]⟩ : Home) ([(⟨⟨7, ⟨#[104, 101, 97, 116]⟩, ⟨#[116, 101, 109, 112]⟩⟩, ⟨2, 100, ⟨#[]⟩⟩, 5⟩ : ItemV)])).1) (⟨#[1, 3, 232]⟩)) 63 (fun b_ => [(7, vi ((encodeM (⟨3, [(⟨⟨#[104, 101, 97, 116]⟩, ⟨#[116, 101, 109, 112]⟩, 1, 5, -400, []⟩ : FieldV)]⟩ : Codec) (⟨[(⟨⟨#[104, 101, 97, 116]⟩, [(⟨⟨#[116, 101, 109, 112]⟩, 2, -500, 1000, [], false, false⟩ : Attr)], [], []⟩ : Cluster)], [(⟨7, 1, 3, false, 0, ⟨#[104, 97, 108, 108]⟩, [⟨#[104, 101, 97, 116]⟩]⟩ : Dev)]⟩ : Home) ([(⟨⟨7, ⟨#[104, 101, 97, 116]⟩, ⟨#[116, 101, 109, 112]⟩⟩, ⟨2, 100, ⟨#[]⟩⟩, 5⟩ : ItemV)])).2)), (59, vb b_)]) [] 3 (fun hg4 => ?_) (fun hg4 => ?_)
     ·
      refine AOps.he [.run 4] 63 [(0, vb (((encodeM (⟨3, [(⟨⟨#[104, 101, 97, 116]⟩, ⟨#[116, 101, 109, 112]⟩, 1, 5, -400, []⟩ : FieldV)]⟩ : Codec) (⟨[(⟨⟨#[104, 101, 97, 116]⟩, [(⟨⟨#[116, 101, 109, 112]⟩, 2, -500, 1000, [], false, false⟩ : Attr)], [], []⟩ : Cluster)], [(⟨7, 1, 3, false, 0, ⟨#[104, 97, 108, 108]⟩, [⟨#[104, 101, 97, 116]⟩]⟩ : Dev)]⟩ : Home) ([(⟨⟨7, ⟨#[104, 101, 97, 116]⟩, ⟨#[116, 101, 109, 112]⟩⟩, ⟨2, 100, ⟨#[]⟩⟩, 5⟩ : ItemV)])).2) == 0))] [] 3 ?_
      exact leZ (by rw [hg1, hg2, hg3, hg4]; first | done | kernel_rfl)
     ·
      refine AOps.he [.run 4] 63 [(0, vb false)] [] 3 ?_
      exact leZ (by rw [hg1, hg2, hg3, hg4]; first | done | kernel_rfl)
    ·
     refine AOps.he [.run 8] 63 [(0, vb false)] [] 3 ?_
     exact leZ (by rw [hg1, hg2, hg3]; first | done | kernel_rfl)
   ·
    refine AOps.he [.run 19] 63 [(0, vb false)] [] 3 ?_
    exact leZ (by rw [hg1, hg2]; first | done | kernel_rfl)
  ·
   refine AOps.he [.run 23] 63 [(0, vb false)] [] 3 ?_
   exact leZ (by rw [hg1]; first | done | kernel_rfl)
 ·
  refine AWp.ret ?_
  exact leafR (r := vb (((venCheckM (⟨3, [(⟨⟨#[104, 101, 97, 116]⟩, ⟨#[116, 101, 109, 112]⟩, 1, 5, -400, []⟩ : FieldV)]⟩ : Codec) (⟨[(⟨⟨#[104, 101, 97, 116]⟩, [(⟨⟨#[116, 101, 109, 112]⟩, 2, -500, 1000, [], false, false⟩ : Attr)], [], []⟩ : Cluster)], [(⟨7, 1, 3, false, 0, ⟨#[104, 97, 108, 108]⟩, [⟨#[104, 101, 97, 116]⟩]⟩ : Dev)]⟩ : Home) == 0) && ((((decodeM (⟨3, [(⟨⟨#[104, 101, 97, 116]⟩, ⟨#[116, 101, 109, 112]⟩, 1, 5, -400, []⟩ : FieldV)]⟩ : Codec) (⟨[(⟨⟨#[104, 101, 97, 116]⟩, [(⟨⟨#[116, 101, 109, 112]⟩, 2, -500, 1000, [], false, false⟩ : Attr)], [], []⟩ : Cluster)], [(⟨7, 1, 3, false, 0, ⟨#[104, 97, 108, 108]⟩, [⟨#[104, 101, 97, 116]⟩]⟩ : Dev)]⟩ : Home) 7 (⟨#[1, 3, 233, 1, 255, 255]⟩)).2) == 0) && (sameItemsM ((decodeM (⟨3, [(⟨⟨#[104, 101, 97, 116]⟩, ⟨#[116, 101, 109, 112]⟩, 1, 5, -400, []⟩ : FieldV)]⟩ : Codec) (⟨[(⟨⟨#[104, 101, 97, 116]⟩, [(⟨⟨#[116, 101, 109, 112]⟩, 2, -500, 1000, [], false, false⟩ : Attr)], [], []⟩ : Cluster)], [(⟨7, 1, 3, false, 0, ⟨#[104, 97, 108, 108]⟩, [⟨#[104, 101, 97, 116]⟩]⟩ : Dev)]⟩ : Home) 7 (⟨#[1, 3, 233, 1, 255, 255]⟩)).1) ([(⟨⟨7, ⟨#[104, 101, 97, 116]⟩, ⟨#[116, 101, 109, 112]⟩⟩, ⟨2, 100, ⟨#[]⟩⟩, 0⟩ : ItemV), (⟨⟨7, ⟨#[104, 101, 97, 116]⟩, ⟨#[116, 101, 109, 112]⟩⟩, ⟨2, -401, ⟨#[]⟩⟩, 0⟩ : ItemV)]) && beqS ((encodeM (⟨3, [(⟨⟨#[104, 101, 97, 116]⟩, ⟨#[116, 101, 109, 112]⟩, 1, 5, -400, []⟩ : FieldV)]⟩ : Codec) (⟨[(⟨⟨#[104, 101, 97, 116]⟩, [(⟨⟨#[116, 101, 109, 112]⟩, 2, -500, 1000, [], false, false⟩ : Attr)], [], []⟩ : Cluster)], [(⟨7, 1, 3, false, 0, ⟨#[104, 97, 108, 108]⟩, [⟨#[104, 101, 97, 116]⟩]⟩ : Dev)]⟩ : Home) ([(⟨⟨7, ⟨#[104, 101, 97, 116]⟩, ⟨#[116, 101, 109, 112]⟩⟩, ⟨2, 100, ⟨#[]⟩⟩, 5⟩ : ItemV)])).1) (⟨#[1, 3, 232]⟩)))) && (((encodeM (⟨3, [(⟨⟨#[104, 101, 97, 116]⟩, ⟨#[116, 101, 109, 112]⟩, 1, 5, -400, []⟩ : FieldV)]⟩ : Codec) (⟨[(⟨⟨#[104, 101, 97, 116]⟩, [(⟨⟨#[116, 101, 109, 112]⟩, 2, -500, 1000, [], false, false⟩ : Attr)], [], []⟩ : Cluster)], [(⟨7, 1, 3, false, 0, ⟨#[104, 97, 108, 108]⟩, [⟨#[104, 101, 97, 116]⟩]⟩ : Dev)]⟩ : Home) ([(⟨⟨7, ⟨#[104, 101, 97, 116]⟩, ⟨#[116, 101, 109, 112]⟩⟩, ⟨2, 100, ⟨#[]⟩⟩, 5⟩ : ItemV)])).2) == 0))) (by unfold awakeM; first | done | kernel_rfl)
theorem awake_true : awakeM = true := by kernel_rfl
theorem awake_ok : ACalls Try.prog G_ 9 [] [] 0 (fun r τ => r = vb true ∧ τ = []) := awake_true ▸ awakeM_ok
def largeM_B1 (c : Codec) (h : Home) (k1_ : Nat) : Option Bool :=
  (match (h.clusters)[k1_]? with | some e1_ => (bif ((decide (((e1_.attrs.length : Nat) : Int) > 15) || decide (((e1_.commands.length : Nat) : Int) > 15)) || decide (((e1_.events.length : Nat) : Int) > 15)) then some true else none) | none => none)
def largeM_L1 (c : Codec) (h : Home) : Option Bool := scanN (largeM_B1 c h) 0 h.clusters.length
def largeM_B2 (c : Codec) (h : Home) (k2_ : Nat) : Option Bool :=
  (match (h.devices)[k2_]? with | some e2_ => (bif decide (((e2_.clusters.length : Nat) : Int) > 15) then some true else none) | none => none)
def largeM_L2 (c : Codec) (h : Home) : Option Bool := scanN (largeM_B2 c h) 0 h.devices.length
def largeM_B3 (c : Codec) (h : Home) (k3_ : Nat) : Option Bool :=
  (match (c.fields)[k3_]? with | some e3_ => (bif decide (((e3_.map.length : Nat) : Int) > 70) then some true else none) | none => none)
def largeM_L3 (c : Codec) (h : Home) : Option Bool := scanN (largeM_B3 c h) 0 c.fields.length
def largeM (c : Codec) (h : Home) : Bool :=
  (((decide (((h.clusters.length : Nat) : Int) > 12) || decide (((h.devices.length : Nat) : Int) > 24)) || decide (((c.fields.length : Nat) : Int) > 40)) || (largeM_L1 c h).getD ((largeM_L2 c h).getD ((largeM_L3 c h).getD false)))
theorem largeM_ok (c : Codec) (h : Home) :
 ACalls Try.prog G_ 8 [.agg (avs (Codec.cells c)), .agg (avs (Home.cells h))] [] 0 (fun r τ => r = vb (largeM c h) ∧ τ = []) := by
 refine ACalls.body Try.func8 rfl 83 [(0, .agg (avs (Codec.cells c))), (1, .agg (avs (Home.cells h)))] ?_
 refine AWp.hz [.run 3] 83 [(2, .ptr 0 0), (3, .ptr 1 0)] [(1, .box 28 (avs (Home.cells h))), (0, .box 24 (avs (Codec.cells c)))] 2 ?_
 refine AWp.seq ?_
 refine AWp.join (Z 83 [(2, .ptr 0 0), (3, .ptr 1 0), (24, vb ((decide (((h.clusters.length : Nat) : Int) > 12) || decide (((h.devices.length : Nat) : Int) > 24)) || decide (((c.fields.length : Nat) : Int) > 40)))] [(1, .box 28 (avs (Home.cells h))), (0, .box 24 (avs (Codec.cells c)))] 2) ?_ ?_
 ·
  refine AWp.region ?_
  refine AOps.hzl [.run 2, .len Cluster.cells h.clusters 4, .run 2] 83 [(2, .ptr 0 0), (3, .ptr 1 0), (13, vb (decide (((h.clusters.length : Nat) : Int) > 12)))] [(1, .box 28 (avs (Home.cells h))), (0, .box 24 (avs (Codec.cells c)))] 2 (fun hl => ?_)
  obtain ⟨hn1, -⟩ := hl
  refine AOps.hg [] (decide (((h.clusters.length : Nat) : Int) > 12)) 83 (fun b_ => [(2, .ptr 0 0), (3, .ptr 1 0), (13, vb b_)]) [(1, .box 28 (avs (Home.cells h))), (0, .box 24 (avs (Codec.cells c)))] 2 (fun hg2 => ?_) (fun hg2 => ?_)
  ·
   have hg2' := of_decide_eq_true hg2
   refine AOps.he [.run 11] 83 [(2, .ptr 0 0), (3, .ptr 1 0), (24, vb true)] [(1, .box 28 (avs (Home.cells h))), (0, .box 24 (avs (Codec.cells c)))] 2 ?_
   exact leZ (by rw [hg2]; first | done | kernel_rfl)
  ·
   have hg2' := of_decide_eq_false hg2
   refine AOps.hzl [.run 2, .len Dev.cells h.devices 7, .run 3] 83 [(2, .ptr 0 0), (3, .ptr 1 0), (19, vb (decide (((h.devices.length : Nat) : Int) > 24)))] [(1, .box 28 (avs (Home.cells h))), (0, .box 24 (avs (Codec.cells c)))] 2 (fun hl => ?_)
   obtain ⟨hn3, -⟩ := hl
   refine AOps.hg [] (decide (((h.devices.length : Nat) : Int) > 24)) 83 (fun b_ => [(2, .ptr 0 0), (3, .ptr 1 0), (19, vb b_)]) [(1, .box 28 (avs (Home.cells h))), (0, .box 24 (avs (Codec.cells c)))] 2 (fun hg4 => ?_) (fun hg4 => ?_)
   ·
    have hg4' := of_decide_eq_true hg4
    refine AOps.he [.run 5] 83 [(2, .ptr 0 0), (3, .ptr 1 0), (24, vb true)] [(1, .box 28 (avs (Home.cells h))), (0, .box 24 (avs (Codec.cells c)))] 2 ?_
    exact leZ (by rw [hg2, hg4]; first | done | kernel_rfl)
   ·
    have hg4' := of_decide_eq_false hg4
    refine AOps.hel [.run 2, .len FieldV.cells c.fields 6, .run 2] 83 [(2, .ptr 0 0), (3, .ptr 1 0), (24, vb (decide (((c.fields.length : Nat) : Int) > 40)))] [(1, .box 28 (avs (Home.cells h))), (0, .box 24 (avs (Codec.cells c)))] 2 (fun hl => ?_)
    obtain ⟨hn5, -⟩ := hl
    exact leZ (by rw [hg2, hg4]; first | done | kernel_rfl)
 ·
  refine AWp.cnd (((decide (((h.clusters.length : Nat) : Int) > 12) || decide (((h.devices.length : Nat) : Int) > 24)) || decide (((c.fields.length : Nat) : Int) > 40))) (fun h6 => ?_) (fun h6 => ?_)
  ·
   refine AWp.hz [.run 1] 83 [(4, vb true)] [] 2 ?_
   refine AWp.ret ?_
   exact leafR (r := vb true) (by unfold largeM; (try rw [h6]); first | done | kernel_rfl)
  ·
   have h6l := or_fl h6
   have h6ll := or_fl h6l
   have h6ll' := of_decide_eq_false h6ll
   have h6lr := or_fr h6l
   have h6lr' := of_decide_eq_false h6lr
   have h6r := or_fr h6
   have h6r' := of_decide_eq_false h6r
   refine AWp.skip ?_
   refine AWp.seq ?_
   refine AWp.hz [.run 1] 83 [(2, .ptr 0 0), (3, .ptr 1 0), (5, vi 0)] [(1, .box 28 (avs (Home.cells h))), (0, .box 24 (avs (Codec.cells c)))] 2 ?_
   refine AWp.block ?_
   refine AWp.loop (ι := Nat) (fun k1_ => Z 83 [(2, .ptr 0 0), (3, .ptr 1 0), (5, vi ((k1_ : Nat) : Int))] [(1, .box 28 (avs (Home.cells h))), (0, .box 24 (avs (Codec.cells c)))] 2) (fun k1_ => k1_ ≤ h.clusters.length ∧ largeM_L1 c h = scanN (largeM_B1 c h) k1_ (h.clusters.length - k1_)) (fun k1_ => h.clusters.length - k1_) 0 leZ ⟨Nat.zero_le _, rfl⟩ ?_
   intro k1_ ⟨hk1_, hs1_⟩
   refine AWp.seq ?_
   refine AWp.hzl [.run 3, .len Cluster.cells h.clusters 4, .run 1] 83 [(2, .ptr 0 0), (3, .ptr 1 0), (5, vi ((k1_ : Nat) : Int)), (29, vb (decide (((k1_ : Nat) : Int) < ((h.clusters.length : Nat) : Int))))] [(1, .box 28 (avs (Home.cells h))), (0, .box 24 (avs (Codec.cells c)))] 2 (fun hl => ?_)
   obtain ⟨hn7, -⟩ := hl
   refine AWp.cnd (decide (((k1_ : Nat) : Int) < ((h.clusters.length : Nat) : Int))) (fun h8 => ?_) (fun h8 => ?_)
   ·
    have h8' := of_decide_eq_true h8
    refine AWp.skip ?_
    refine AWp.seq ?_
    refine AWp.block ?_
    obtain ⟨e1_, he1_⟩ := getEx (l := h.clusters) (j := k1_) (by omega)
    refine AWp.hz [.run 3, .idx Cluster.cells h.clusters 4 k1_ e1_ he1_, .run 3] 83 [(2, .ptr 0 0), (3, .ptr 1 0), (5, vi ((k1_ : Nat) : Int)), (6, .ptr 2 0)] [(2, .box 58 (avs (Cluster.cells e1_))), (1, .box 28 (avs (Home.cells h))), (0, .box 24 (avs (Codec.cells c)))] 3 ?_
    refine AWp.join (Z 83 [(2, .ptr 0 0), (3, .ptr 1 0), (5, vi ((k1_ : Nat) : Int)), (52, vb ((decide (((e1_.attrs.length : Nat) : Int) > 15) || decide (((e1_.commands.length : Nat) : Int) > 15)) || decide (((e1_.events.length : Nat) : Int) > 15)))] [(1, .box 28 (avs (Home.cells h))), (0, .box 24 (avs (Codec.cells c)))] 3) ?_ ?_
    ·
     refine AWp.region ?_
     refine AOps.hzl [.run 2, .len Attr.cells e1_.attrs 7, .run 2] 83 [(2, .ptr 0 0), (3, .ptr 1 0), (5, vi ((k1_ : Nat) : Int)), (6, .ptr 2 0), (41, vb (decide (((e1_.attrs.length : Nat) : Int) > 15)))] [(2, .box 58 (avs (Cluster.cells e1_))), (1, .box 28 (avs (Home.cells h))), (0, .box 24 (avs (Codec.cells c)))] 3 (fun hl => ?_)
     obtain ⟨hn9, -⟩ := hl
     refine AOps.hg [] (decide (((e1_.attrs.length : Nat) : Int) > 15)) 83 (fun b_ => [(2, .ptr 0 0), (3, .ptr 1 0), (5, vi ((k1_ : Nat) : Int)), (6, .ptr 2 0), (41, vb b_)]) [(2, .box 58 (avs (Cluster.cells e1_))), (1, .box 28 (avs (Home.cells h))), (0, .box 24 (avs (Codec.cells c)))] 3 (fun hg10 => ?_) (fun hg10 => ?_)
     ·
      have hg10' := of_decide_eq_true hg10
      refine AOps.he [.run 11] 83 [(2, .ptr 0 0), (3, .ptr 1 0), (5, vi ((k1_ : Nat) : Int)), (52, vb true)] [(1, .box 28 (avs (Home.cells h))), (0, .box 24 (avs (Codec.cells c)))] 3 ?_
      exact leZ (by rw [hg10]; first | done | kernel_rfl)
     ·
      have hg10' := of_decide_eq_false hg10
      refine AOps.hzl [.run 2, .len Command.cells e1_.commands 9, .run 3] 83 [(2, .ptr 0 0), (3, .ptr 1 0), (5, vi ((k1_ : Nat) : Int)), (6, .ptr 2 0), (47, vb (decide (((e1_.commands.length : Nat) : Int) > 15)))] [(2, .box 58 (avs (Cluster.cells e1_))), (1, .box 28 (avs (Home.cells h))), (0, .box 24 (avs (Codec.cells c)))] 3 (fun hl => ?_)
      obtain ⟨hn11, -⟩ := hl
      refine AOps.hg [] (decide (((e1_.commands.length : Nat) : Int) > 15)) 83 (fun b_ => [(2, .ptr 0 0), (3, .ptr 1 0), (5, vi ((k1_ : Nat) : Int)), (6, .ptr 2 0), (47, vb b_)]) [(2, .box 58 (avs (Cluster.cells e1_))), (1, .box 28 (avs (Home.cells h))), (0, .box 24 (avs (Codec.cells c)))] 3 (fun hg12 => ?_) (fun hg12 => ?_)
      ·
       have hg12' := of_decide_eq_true hg12
       refine AOps.he [.run 5] 83 [(2, .ptr 0 0), (3, .ptr 1 0), (5, vi ((k1_ : Nat) : Int)), (52, vb true)] [(1, .box 28 (avs (Home.cells h))), (0, .box 24 (avs (Codec.cells c)))] 3 ?_
       exact leZ (by rw [hg10, hg12]; first | done | kernel_rfl)
      ·
       have hg12' := of_decide_eq_false hg12
       refine AOps.hel [.run 2, .len strC e1_.events 1, .run 2] 83 [(2, .ptr 0 0), (3, .ptr 1 0), (5, vi ((k1_ : Nat) : Int)), (52, vb (decide (((e1_.events.length : Nat) : Int) > 15)))] [(1, .box 28 (avs (Home.cells h))), (0, .box 24 (avs (Codec.cells c)))] 3 (fun hl => ?_)
       obtain ⟨hn13, -⟩ := hl
       exact leZ (by rw [hg10, hg12]; first | done | kernel_rfl)
    ·
     refine AWp.cnd (((decide (((e1_.attrs.length : Nat) : Int) > 15) || decide (((e1_.commands.length : Nat) : Int) > 15)) || decide (((e1_.events.length : Nat) : Int) > 15))) (fun h14 => ?_) (fun h14 => ?_)
     ·
      refine AWp.hz [.run 1] 83 [(4, vb true)] [] 3 ?_
      refine AWp.ret ?_
      have hL1_ : largeM_L1 c h = some true := scanN_some hs1_ (by omega) (by unfold largeM_B1; (try simp only [he1_]); (try rw [h8]); (try rw [h14]); first | done | kernel_rfl)
      exact leafR (r := vb true) (by unfold largeM; (try rw [h6]); (try rw [hL1_]); first | done | kernel_rfl)
     ·
      have h14l := or_fl h14
      have h14ll := or_fl h14l
      have h14ll' := of_decide_eq_false h14ll
      have h14lr := or_fr h14l
      have h14lr' := of_decide_eq_false h14lr
      have h14r := or_fr h14
      have h14r' := of_decide_eq_false h14r
      refine AWp.skip ?_
      refine AWp.he [.run 1, .cast (vi (IntKind.i64.wrap (((k1_ : Nat) : Int) + 1))) (vi ((k1_ + 1 : Nat) : Int)) (congrArg vi (wrap_nat (by omega))), .run 1] 83 [(2, .ptr 0 0), (3, .ptr 1 0), (5, vi ((k1_ + 1 : Nat) : Int))] [(1, .box 28 (avs (Home.cells h))), (0, .box 24 (avs (Codec.cells c)))] 3 ?_
      exact ⟨k1_ + 1, ⟨by omega, scanN_none hs1_ (by omega) (by unfold largeM_B1; (try simp only [he1_]); (try rw [h8]); (try rw [h14]); first | done | kernel_rfl)⟩, by omega, leG⟩
   ·
    have h8' := of_decide_eq_false h8
    refine AWp.exit ?_
    have hL1_ : largeM_L1 c h = none := scanN_end hs1_ (by omega)
    refine AWp.seq ?_
    refine AWp.hz [.run 1] 83 [(2, .ptr 0 0), (3, .ptr 1 0), (7, vi 0)] [(1, .box 28 (avs (Home.cells h))), (0, .box 24 (avs (Codec.cells c)))] 2 ?_
    refine AWp.block ?_
    refine AWp.loop (ι := Nat) (fun k2_ => Z 83 [(2, .ptr 0 0), (3, .ptr 1 0), (7, vi ((k2_ : Nat) : Int))] [(1, .box 28 (avs (Home.cells h))), (0, .box 24 (avs (Codec.cells c)))] 2) (fun k2_ => k2_ ≤ h.devices.length ∧ largeM_L2 c h = scanN (largeM_B2 c h) k2_ (h.devices.length - k2_)) (fun k2_ => h.devices.length - k2_) 0 leZ ⟨Nat.zero_le _, rfl⟩ ?_
    intro k2_ ⟨hk2_, hs2_⟩
    refine AWp.seq ?_
    refine AWp.hzl [.run 3, .len Dev.cells h.devices 7, .run 1] 83 [(2, .ptr 0 0), (3, .ptr 1 0), (7, vi ((k2_ : Nat) : Int)), (57, vb (decide (((k2_ : Nat) : Int) < ((h.devices.length : Nat) : Int))))] [(1, .box 28 (avs (Home.cells h))), (0, .box 24 (avs (Codec.cells c)))] 2 (fun hl => ?_)
    obtain ⟨hn15, -⟩ := hl
    refine AWp.cnd (decide (((k2_ : Nat) : Int) < ((h.devices.length : Nat) : Int))) (fun h16 => ?_) (fun h16 => ?_)
    ·
     have h16' := of_decide_eq_true h16
     refine AWp.skip ?_
     refine AWp.seq ?_
     refine AWp.block ?_
     obtain ⟨e2_, he2_⟩ := getEx (l := h.devices) (j := k2_) (by omega)
     refine AWp.hzl [.run 3, .idx Dev.cells h.devices 7 k2_ e2_ he2_, .run 2, .len strC e2_.clusters 1, .run 1] 83 [(2, .ptr 0 0), (3, .ptr 1 0), (7, vi ((k2_ : Nat) : Int)), (67, vb (decide (((e2_.clusters.length : Nat) : Int) > 15)))] [(1, .box 28 (avs (Home.cells h))), (0, .box 24 (avs (Codec.cells c)))] 2 (fun hl => ?_)
     obtain ⟨hn17, -⟩ := hl
     refine AWp.cnd (decide (((e2_.clusters.length : Nat) : Int) > 15)) (fun h18 => ?_) (fun h18 => ?_)
     ·
      have h18' := of_decide_eq_true h18
      refine AWp.hz [.run 1] 83 [(4, vb true)] [] 2 ?_
      refine AWp.ret ?_
      have hL2_ : largeM_L2 c h = some true := scanN_some hs2_ (by omega) (by unfold largeM_B2; (try simp only [he2_]); (try rw [h16]); (try rw [h18]); first | done | kernel_rfl)
      exact leafR (r := vb true) (by unfold largeM; (try rw [h6]); (try rw [hL1_]); (try rw [hL2_]); first | done | kernel_rfl)
     ·
      have h18' := of_decide_eq_false h18
      refine AWp.skip ?_
      refine AWp.he [.run 1, .cast (vi (IntKind.i64.wrap (((k2_ : Nat) : Int) + 1))) (vi ((k2_ + 1 : Nat) : Int)) (congrArg vi (wrap_nat (by omega))), .run 1] 83 [(2, .ptr 0 0), (3, .ptr 1 0), (7, vi ((k2_ + 1 : Nat) : Int))] [(1, .box 28 (avs (Home.cells h))), (0, .box 24 (avs (Codec.cells c)))] 2 ?_
      exact ⟨k2_ + 1, ⟨by omega, scanN_none hs2_ (by omega) (by unfold largeM_B2; (try simp only [he2_]); (try rw [h16]); (try rw [h18]); first | done | kernel_rfl)⟩, by omega, leG⟩
    ·
     have h16' := of_decide_eq_false h16
     refine AWp.exit ?_
     have hL2_ : largeM_L2 c h = none := scanN_end hs2_ (by omega)
     refine AWp.seq ?_
     refine AWp.hz [.run 1] 83 [(2, .ptr 0 0), (8, vi 0)] [(0, .box 24 (avs (Codec.cells c)))] 2 ?_
     refine AWp.block ?_
     refine AWp.loop (ι := Nat) (fun k3_ => Z 83 [(2, .ptr 0 0), (8, vi ((k3_ : Nat) : Int))] [(0, .box 24 (avs (Codec.cells c)))] 2) (fun k3_ => k3_ ≤ c.fields.length ∧ largeM_L3 c h = scanN (largeM_B3 c h) k3_ (c.fields.length - k3_)) (fun k3_ => c.fields.length - k3_) 0 leZ ⟨Nat.zero_le _, rfl⟩ ?_
     intro k3_ ⟨hk3_, hs3_⟩
     refine AWp.seq ?_
     refine AWp.hzl [.run 3, .len FieldV.cells c.fields 6, .run 1] 83 [(2, .ptr 0 0), (8, vi ((k3_ : Nat) : Int)), (72, vb (decide (((k3_ : Nat) : Int) < ((c.fields.length : Nat) : Int))))] [(0, .box 24 (avs (Codec.cells c)))] 2 (fun hl => ?_)
     obtain ⟨hn19, -⟩ := hl
     refine AWp.cnd (decide (((k3_ : Nat) : Int) < ((c.fields.length : Nat) : Int))) (fun h20 => ?_) (fun h20 => ?_)
     ·
      have h20' := of_decide_eq_true h20
      refine AWp.skip ?_
      refine AWp.seq ?_
      refine AWp.block ?_
      obtain ⟨e3_, he3_⟩ := getEx (l := c.fields) (j := k3_) (by omega)
      refine AWp.hzl [.run 3, .idx FieldV.cells c.fields 6 k3_ e3_ he3_, .run 2, .len intC e3_.map 1, .run 1] 83 [(2, .ptr 0 0), (8, vi ((k3_ : Nat) : Int)), (82, vb (decide (((e3_.map.length : Nat) : Int) > 70)))] [(0, .box 24 (avs (Codec.cells c)))] 2 (fun hl => ?_)
      obtain ⟨hn21, -⟩ := hl
      refine AWp.cnd (decide (((e3_.map.length : Nat) : Int) > 70)) (fun h22 => ?_) (fun h22 => ?_)
      ·
       have h22' := of_decide_eq_true h22
       refine AWp.hz [.run 1] 83 [(4, vb true)] [] 2 ?_
       refine AWp.ret ?_
       have hL3_ : largeM_L3 c h = some true := scanN_some hs3_ (by omega) (by unfold largeM_B3; (try simp only [he3_]); (try rw [h20]); (try rw [h22]); first | done | kernel_rfl)
       exact leafR (r := vb true) (by unfold largeM; (try rw [h6]); (try rw [hL1_]); (try rw [hL2_]); (try rw [hL3_]); first | done | kernel_rfl)
      ·
       have h22' := of_decide_eq_false h22
       refine AWp.skip ?_
       refine AWp.he [.run 1, .cast (vi (IntKind.i64.wrap (((k3_ : Nat) : Int) + 1))) (vi ((k3_ + 1 : Nat) : Int)) (congrArg vi (wrap_nat (by omega))), .run 1] 83 [(2, .ptr 0 0), (8, vi ((k3_ + 1 : Nat) : Int))] [(0, .box 24 (avs (Codec.cells c)))] 2 ?_
       exact ⟨k3_ + 1, ⟨by omega, scanN_none hs3_ (by omega) (by unfold largeM_B3; (try simp only [he3_]); (try rw [h20]); (try rw [h22]); first | done | kernel_rfl)⟩, by omega, leG⟩
     ·
      have h20' := of_decide_eq_false h20
      refine AWp.exit ?_
      have hL3_ : largeM_L3 c h = none := scanN_end hs3_ (by omega)
      refine AWp.hz [.run 1] 83 [(4, vb false)] [] 2 ?_
      refine AWp.ret ?_
      exact leafR (r := vb false) (by unfold largeM; (try rw [h6]); (try rw [hL1_]); (try rw [hL2_]); (try rw [hL3_]); first | done | kernel_rfl)
theorem large_fields {c : Codec} {h : Home} (hh : largeM c h = false) : c.fields.length ≤ 1000 := by
  unfold largeM at hh
  simp only [Bool.or_eq_false_iff, decide_eq_false_iff_not] at hh
  omega
theorem foldPush_size : ∀ (l : List Int) (s : ByteArray), (l.foldl (fun r n => r.push (UInt8.ofNat n.toNat)) s).size = s.size + l.length
  | [], s => rfl
  | n :: l, s => by
    rw [List.foldl_cons, foldPush_size l, ByteArray.size_push, List.length_cons]
    omega
theorem bytesOf_size (l : List Int) : (bytesOf l).size = l.length := by
  unfold bytesOf
  rw [foldPush_size]
  show 0 + l.length = l.length
  omega
theorem loopS_le {R A : Type} {b : Nat → A → Step R A} (I : Nat → A → Prop) (hn : ∀ k a a', I k a → b k a = .nxt a' → I (k + 1) a') (hb : ∀ k a a', b k a ≠ .brk a') : ∀ {m k : Nat} {a a' : A}, I k a → loopS b k m a = .inr a' → I (k + m) a'
  | 0, k, a, a', h, hl => by
    simp only [loopS, Sum.inr.injEq] at hl
    subst hl
    exact h
  | m + 1, k, a, a', h, hl => by
    unfold loopS at hl
    split at hl
    · cases hl
    · rename_i hk
      exact absurd hk (hb _ _ _)
    · rename_i a2 hk
      have := loopS_le I hn hb (m := m) (hn k a a2 h hk) hl
      rwa [show k + 1 + m = k + (m + 1) from by omega] at this
theorem encodeM_size (c : Codec) (h : Home) (l : List ItemV) : (encodeM c h l).1.size ≤ 3 * l.length := by
  unfold encodeM
  simp only [cond_eq_ite]
  split
  · exact Nat.zero_le _
  · split
    · rename_i r hr
      obtain ⟨j, a, hj⟩ := loopS_inl hr
      unfold encodeM_B1 at hj
      simp only [cond_eq_ite] at hj
      repeat' split at hj
      all_goals first
        | (cases hj; done)
        | (cases hj; exact Nat.zero_le _)
    · rename_i a hr
      have := loopS_le (b := encodeM_B1 c h l) (fun k a => a.length ≤ 3 * k) (fun k a a' ha hb => by
        unfold encodeM_B1 at hb
        simp only [cond_eq_ite] at hb
        repeat' split at hb
        all_goals first
          | (cases hb; done)
          | (cases hb; simp only [List.length_append, List.length_cons, List.length_nil]; omega)
          | (cases hb; omega)) (fun k a a' hb => by
        unfold encodeM_B1 at hb
        simp only [cond_eq_ite] at hb
        repeat' split at hb
        all_goals cases hb) (k := 0) (a := []) (by simp) hr
      rw [bytesOf_size]
      omega
def lDecodesM (c : Codec) (h : Home) (x : Raw23) : Bool :=
  ((largeM c h || decide (((x.bytes.size : Nat) : Int) > 60)) || (sameItemsM ((decodeM c h x.dev x.bytes).1) ((rdecodeM c h x.dev x.bytes).1) && (((decodeM c h x.dev x.bytes).2) == ((rdecodeM c h x.dev x.bytes).2))))
theorem lDecodesM_ok (c : Codec) (h : Home) (x : Raw23) :
 ACalls Try.prog G_ 4 [.agg (avs (Codec.cells c)), .agg (avs (Home.cells h)), .agg (avs (Raw23.cells x))] [] 0 (fun r τ => r = vb (lDecodesM c h x) ∧ τ = []) := by
 refine ACalls.body Try.func4 rfl 52 [(0, .agg (avs (Codec.cells c))), (1, .agg (avs (Home.cells h))), (2, .agg (avs (Raw23.cells x)))] ?_
 refine AWp.hz [.run 4] 52 [(3, .ptr 0 0), (4, .ptr 1 0), (5, .ptr 2 0)] [(2, .box 34 (avs (Raw23.cells x))), (1, .box 28 (avs (Home.cells h))), (0, .box 24 (avs (Codec.cells c)))] 3 ?_
 refine AWp.seq ?_
 refine AWp.join (Z 52 [(3, .ptr 0 0), (4, .ptr 1 0), (5, .ptr 2 0), (19, vb (largeM c h || decide (((x.bytes.size : Nat) : Int) > 60)))] [(2, .box 34 (avs (Raw23.cells x))), (1, .box 28 (avs (Home.cells h))), (0, .box 24 (avs (Codec.cells c)))] 3) ?_ ?_
 ·
  refine AWp.region ?_
  refine AOps.hg [.run 2, .call 8 [.agg (avs (Codec.cells c)), .agg (avs (Home.cells h))] (vb (largeM c h)) [] 0 (largeM_ok c h), .run 1] (largeM c h) 52 (fun b_ => [(3, .ptr 0 0), (4, .ptr 1 0), (5, .ptr 2 0), (14, vb b_)]) [(2, .box 34 (avs (Raw23.cells x))), (1, .box 28 (avs (Home.cells h))), (0, .box 24 (avs (Codec.cells c)))] 3 (fun hg1 => ?_) (fun hg1 => ?_)
  ·
   refine AOps.he [.run 5] 52 [(3, .ptr 0 0), (4, .ptr 1 0), (5, .ptr 2 0), (19, vb true)] [(2, .box 34 (avs (Raw23.cells x))), (1, .box 28 (avs (Home.cells h))), (0, .box 24 (avs (Codec.cells c)))] 3 ?_
   exact leZ (by rw [hg1]; first | done | kernel_rfl)
  ·
   refine AOps.he [.run 5] 52 [(3, .ptr 0 0), (4, .ptr 1 0), (5, .ptr 2 0), (19, vb (decide (((x.bytes.size : Nat) : Int) > 60)))] [(2, .box 34 (avs (Raw23.cells x))), (1, .box 28 (avs (Home.cells h))), (0, .box 24 (avs (Codec.cells c)))] 3 ?_
   exact leZ (by rw [hg1]; first | done | kernel_rfl)
 ·
  refine AWp.cnd ((largeM c h || decide (((x.bytes.size : Nat) : Int) > 60))) (fun h2 => ?_) (fun h2 => ?_)
  ·
   refine AWp.hz [.call 9 [] (vb true) [] 0 (awake_ok), .run 1] 52 [(6, vb true)] [] 3 ?_
   refine AWp.ret ?_
   exact leafR (r := vb true) (by unfold lDecodesM; (try rw [h2]); first | done | kernel_rfl)
  ·
   have h2l := or_fl h2
   have h2r := or_fr h2
   have h2r' := of_decide_eq_false h2r
   refine AWp.skip ?_
   refine AWp.hz [.run 6, .call 12 [.agg (avs (Codec.cells c)), .agg (avs (Home.cells h)), vi x.dev, vs x.bytes] (.tuple [.rv (.sl 7 (((decodeM c h x.dev x.bytes).1).map ItemV.cells)), vi ((decodeM c h x.dev x.bytes).2)]) [] 0 (decodeM_ok c h x.dev x.bytes (by first | omega | exact large_fields (by assumption) | (have := encodeM_size c h l; omega) | (simp only [ByteArray.size_extract]; omega))), .run 5] 52 [(3, .ptr 0 0), (4, .ptr 1 0), (5, .ptr 2 0), (7, .rv (.sl 7 (((decodeM c h x.dev x.bytes).1).map ItemV.cells))), (8, vi ((decodeM c h x.dev x.bytes).2))] [(2, .box 34 (avs (Raw23.cells x))), (1, .box 28 (avs (Home.cells h))), (0, .box 24 (avs (Codec.cells c)))] 3 ?_
   refine AWp.hz [.run 6, .call 13 [.agg (avs (Codec.cells c)), .agg (avs (Home.cells h)), vi x.dev, vs x.bytes] (.tuple [.rv (.sl 7 (((rdecodeM c h x.dev x.bytes).1).map ItemV.cells)), vi ((rdecodeM c h x.dev x.bytes).2)]) [] 0 (rdecodeM_ok c h x.dev x.bytes (by first | omega | exact large_fields (by assumption) | (have := encodeM_size c h l; omega) | (simp only [ByteArray.size_extract]; omega))), .run 5] 52 [(7, .rv (.sl 7 (((decodeM c h x.dev x.bytes).1).map ItemV.cells))), (8, vi ((decodeM c h x.dev x.bytes).2)), (9, .rv (.sl 7 (((rdecodeM c h x.dev x.bytes).1).map ItemV.cells))), (10, vi ((rdecodeM c h x.dev x.bytes).2))] [] 3 ?_
   refine AWp.join (Z 52 [(6, vb (sameItemsM ((decodeM c h x.dev x.bytes).1) ((rdecodeM c h x.dev x.bytes).1) && (((decodeM c h x.dev x.bytes).2) == ((rdecodeM c h x.dev x.bytes).2))))] [] 3) ?_ ?_
   ·
    refine AWp.region ?_
    refine AOps.hg [.run 2, .call 14 [.rv (.sl 7 (((decodeM c h x.dev x.bytes).1).map ItemV.cells)), .rv (.sl 7 (((rdecodeM c h x.dev x.bytes).1).map ItemV.cells))] (vb (sameItemsM ((decodeM c h x.dev x.bytes).1) ((rdecodeM c h x.dev x.bytes).1))) [] 0 (sameItemsM_ok ((decodeM c h x.dev x.bytes).1) ((rdecodeM c h x.dev x.bytes).1)), .run 1] (sameItemsM ((decodeM c h x.dev x.bytes).1) ((rdecodeM c h x.dev x.bytes).1)) 52 (fun b_ => [(8, vi ((decodeM c h x.dev x.bytes).2)), (10, vi ((rdecodeM c h x.dev x.bytes).2)), (44, vb b_)]) [] 3 (fun hg3 => ?_) (fun hg3 => ?_)
    ·
     refine AOps.hg [.run 5] ((((decodeM c h x.dev x.bytes).2) == ((rdecodeM c h x.dev x.bytes).2))) 52 (fun b_ => [(49, vb b_)]) [] 3 (fun hg4 => ?_) (fun hg4 => ?_)
     ·
      refine AOps.he [.call 9 [] (vb true) [] 0 (awake_ok), .run 2] 52 [(6, vb true)] [] 3 ?_
      exact leZ (by rw [hg3, hg4]; first | done | kernel_rfl)
     ·
      refine AOps.he [.run 3] 52 [(6, vb false)] [] 3 ?_
      exact leZ (by rw [hg3, hg4]; first | done | kernel_rfl)
    ·
     refine AOps.he [.run 8] 52 [(6, vb false)] [] 3 ?_
     exact leZ (by rw [hg3]; first | done | kernel_rfl)
   ·
    refine AWp.ret ?_
    exact leafR (r := vb (sameItemsM ((decodeM c h x.dev x.bytes).1) ((rdecodeM c h x.dev x.bytes).1) && (((decodeM c h x.dev x.bytes).2) == ((rdecodeM c h x.dev x.bytes).2)))) (by unfold lDecodesM; (try rw [h2]); first | done | kernel_rfl)
def lEncodesM (c : Codec) (h : Home) (l : List ItemV) : Bool :=
  ((largeM c h || decide (((l.length : Nat) : Int) > 10)) || (beqS ((encodeM c h l).1) ((rencodeM c h l).1) && (((encodeM c h l).2) == ((rencodeM c h l).2))))
theorem lEncodesM_ok (c : Codec) (h : Home) (l : List ItemV) :
 ACalls Try.prog G_ 5 [.agg (avs (Codec.cells c)), .agg (avs (Home.cells h)), .rv (.sl 7 (l.map ItemV.cells))] [] 0 (fun r τ => r = vb (lEncodesM c h l) ∧ τ = []) := by
 refine ACalls.body Try.func5 rfl 45 [(0, .agg (avs (Codec.cells c))), (1, .agg (avs (Home.cells h))), (2, .rv (.sl 7 (l.map ItemV.cells)))] ?_
 refine AWp.hz [.run 3] 45 [(2, .rv (.sl 7 (l.map ItemV.cells))), (3, .ptr 0 0), (4, .ptr 1 0)] [(1, .box 28 (avs (Home.cells h))), (0, .box 24 (avs (Codec.cells c)))] 2 ?_
 refine AWp.seq ?_
 refine AWp.join (Z 45 [(2, .rv (.sl 7 (l.map ItemV.cells))), (3, .ptr 0 0), (4, .ptr 1 0), (18, vb (largeM c h || decide (((l.length : Nat) : Int) > 10)))] [(1, .box 28 (avs (Home.cells h))), (0, .box 24 (avs (Codec.cells c)))] 2) ?_ ?_
 ·
  refine AWp.region ?_
  refine AOps.hg [.run 2, .call 8 [.agg (avs (Codec.cells c)), .agg (avs (Home.cells h))] (vb (largeM c h)) [] 0 (largeM_ok c h), .run 1] (largeM c h) 45 (fun b_ => [(2, .rv (.sl 7 (l.map ItemV.cells))), (3, .ptr 0 0), (4, .ptr 1 0), (14, vb b_)]) [(1, .box 28 (avs (Home.cells h))), (0, .box 24 (avs (Codec.cells c)))] 2 (fun hg1 => ?_) (fun hg1 => ?_)
  ·
   refine AOps.he [.run 4] 45 [(2, .rv (.sl 7 (l.map ItemV.cells))), (3, .ptr 0 0), (4, .ptr 1 0), (18, vb true)] [(1, .box 28 (avs (Home.cells h))), (0, .box 24 (avs (Codec.cells c)))] 2 ?_
   exact leZ (by rw [hg1]; first | done | kernel_rfl)
  ·
   refine AOps.hel [.run 1, .len ItemV.cells l 7, .run 2] 45 [(2, .rv (.sl 7 (l.map ItemV.cells))), (3, .ptr 0 0), (4, .ptr 1 0), (18, vb (decide (((l.length : Nat) : Int) > 10)))] [(1, .box 28 (avs (Home.cells h))), (0, .box 24 (avs (Codec.cells c)))] 2 (fun hl => ?_)
   obtain ⟨hn2, -⟩ := hl
   exact leZ (by rw [hg1]; first | done | kernel_rfl)
 ·
  refine AWp.cnd ((largeM c h || decide (((l.length : Nat) : Int) > 10))) (fun h3 => ?_) (fun h3 => ?_)
  ·
   refine AWp.hz [.call 9 [] (vb true) [] 0 (awake_ok), .run 1] 45 [(6, vb true)] [] 2 ?_
   refine AWp.ret ?_
   exact leafR (r := vb true) (by unfold lEncodesM; (try rw [h3]); first | done | kernel_rfl)
  ·
   have h3l := or_fl h3
   have h3r := or_fr h3
   have h3r' := of_decide_eq_false h3r
   refine AWp.skip ?_
   refine AWp.hz [.run 3, .call 15 [.agg (avs (Codec.cells c)), .agg (avs (Home.cells h)), .rv (.sl 7 (l.map ItemV.cells))] (.tuple [vs ((encodeM c h l).1), vi ((encodeM c h l).2)]) [] 0 (encodeM_ok c h l (by first | omega | exact large_fields (by assumption) | (have := encodeM_size c h l; omega) | (simp only [ByteArray.size_extract]; omega))), .run 5] 45 [(2, .rv (.sl 7 (l.map ItemV.cells))), (3, .ptr 0 0), (4, .ptr 1 0), (7, vs ((encodeM c h l).1)), (8, vi ((encodeM c h l).2))] [(1, .box 28 (avs (Home.cells h))), (0, .box 24 (avs (Codec.cells c)))] 2 ?_
   refine AWp.hz [.run 3, .call 16 [.agg (avs (Codec.cells c)), .agg (avs (Home.cells h)), .rv (.sl 7 (l.map ItemV.cells))] (.tuple [vs ((rencodeM c h l).1), vi ((rencodeM c h l).2)]) [] 0 (rencodeM_ok c h l (by first | omega | exact large_fields (by assumption) | (have := encodeM_size c h l; omega) | (simp only [ByteArray.size_extract]; omega)) (by first | omega | exact large_fields (by assumption) | (have := encodeM_size c h l; omega) | (simp only [ByteArray.size_extract]; omega))), .run 5] 45 [(7, vs ((encodeM c h l).1)), (8, vi ((encodeM c h l).2)), (9, vs ((rencodeM c h l).1)), (10, vi ((rencodeM c h l).2))] [] 2 ?_
   refine AWp.join (Z 45 [(6, vb (beqS ((encodeM c h l).1) ((rencodeM c h l).1) && (((encodeM c h l).2) == ((rencodeM c h l).2))))] [] 2) ?_ ?_
   ·
    refine AWp.region ?_
    refine AOps.hg [.run 4] (beqS ((encodeM c h l).1) ((rencodeM c h l).1)) 45 (fun b_ => [(8, vi ((encodeM c h l).2)), (10, vi ((rencodeM c h l).2)), (37, vb b_)]) [] 2 (fun hg4 => ?_) (fun hg4 => ?_)
    ·
     refine AOps.hg [.run 5] ((((encodeM c h l).2) == ((rencodeM c h l).2))) 45 (fun b_ => [(42, vb b_)]) [] 2 (fun hg5 => ?_) (fun hg5 => ?_)
     ·
      refine AOps.he [.call 9 [] (vb true) [] 0 (awake_ok), .run 2] 45 [(6, vb true)] [] 2 ?_
      exact leZ (by rw [hg4, hg5]; first | done | kernel_rfl)
     ·
      refine AOps.he [.run 3] 45 [(6, vb false)] [] 2 ?_
      exact leZ (by rw [hg4, hg5]; first | done | kernel_rfl)
    ·
     refine AOps.he [.run 8] 45 [(6, vb false)] [] 2 ?_
     exact leZ (by rw [hg4]; first | done | kernel_rfl)
   ·
    refine AWp.ret ?_
    exact leafR (r := vb (beqS ((encodeM c h l).1) ((rencodeM c h l).1) && (((encodeM c h l).2) == ((rencodeM c h l).2)))) (by unfold lEncodesM; (try rw [h3]); first | done | kernel_rfl)
end Go.Proofs.Ytmjimhkbehoomaa
