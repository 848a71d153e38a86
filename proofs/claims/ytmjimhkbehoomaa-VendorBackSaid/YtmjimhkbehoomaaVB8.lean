/- The examples of the chapter, what the statements compute. -/
import Derived.Test.YtmjimhkbehoomaaVQk
namespace Go.Proofs.Ytmjimhkbehoomaa
open Go Go.Av Go.Hh Go.Proofs
set_option maxRecDepth 100000
set_option maxHeartbeats 4000000
def awakeM  : Bool :=
  (((venCheckM (⟨3, [(⟨⟨#[104, 101, 97, 116]⟩, ⟨#[116, 101, 109, 112]⟩, 1, 5, -400, []⟩ : FieldV)]⟩ : Codec) (⟨[(⟨⟨#[104, 101, 97, 116]⟩, [(⟨⟨#[116, 101, 109, 112]⟩, 2, -500, 1000, [], false, false⟩ : Attr)], [], []⟩ : Cluster)], [(⟨7, 1, 3, false, 0, ⟨#[104, 97, 108, 108]⟩, [⟨#[104, 101, 97, 116]⟩]⟩ : Dev)]⟩ : Home) == 0) && ((((decodeM (⟨3, [(⟨⟨#[104, 101, 97, 116]⟩, ⟨#[116, 101, 109, 112]⟩, 1, 5, -400, []⟩ : FieldV)]⟩ : Codec) (⟨[(⟨⟨#[104, 101, 97, 116]⟩, [(⟨⟨#[116, 101, 109, 112]⟩, 2, -500, 1000, [], false, false⟩ : Attr)], [], []⟩ : Cluster)], [(⟨7, 1, 3, false, 0, ⟨#[104, 97, 108, 108]⟩, [⟨#[104, 101, 97, 116]⟩]⟩ : Dev)]⟩ : Home) 7 (⟨#[1, 3, 233, 1, 255, 255]⟩)).2) == 0) && (sameItemsM ((decodeM (⟨3, [(⟨⟨#[104, 101, 97, 116]⟩, ⟨#[116, 101, 109, 112]⟩, 1, 5, -400, []⟩ : FieldV)]⟩ : Codec) (⟨[(⟨⟨#[104, 101, 97, 116]⟩, [(⟨⟨#[116, 101, 109, 112]⟩, 2, -500, 1000, [], false, false⟩ : Attr)], [], []⟩ : Cluster)], [(⟨7, 1, 3, false, 0, ⟨#[104, 97, 108, 108]⟩, [⟨#[104, 101, 97, 116]⟩]⟩ : Dev)]⟩ : Home) 7 (⟨#[1, 3, 233, 1, 255, 255]⟩)).1) ([(⟨⟨7, ⟨#[104, 101, 97, 116]⟩, ⟨#[116, 101, 109, 112]⟩⟩, ⟨2, 100, ⟨#[]⟩⟩, 0⟩ : ItemV), (⟨⟨7, ⟨#[104, 101, 97, 116]⟩, ⟨#[116, 101, 109, 112]⟩⟩, ⟨2, -401, ⟨#[]⟩⟩, 0⟩ : ItemV)]) && beqS ((encodeM (⟨3, [(⟨⟨#[104, 101, 97, 116]⟩, ⟨#[116, 101, 109, 112]⟩, 1, 5, -400, []⟩ : FieldV)]⟩ : Codec) (⟨[(⟨⟨#[104, 101, 97, 116]⟩, [(⟨⟨#[116, 101, 109, 112]⟩, 2, -500, 1000, [], false, false⟩ : Attr)], [], []⟩ : Cluster)], [(⟨7, 1, 3, false, 0, ⟨#[104, 97, 108, 108]⟩, [⟨#[104, 101, 97, 116]⟩]⟩ : Dev)]⟩ : Home) ([(⟨⟨7, ⟨#[104, 101, 97, 116]⟩, ⟨#[116, 101, 109, 112]⟩⟩, ⟨2, 100, ⟨#[]⟩⟩, 5⟩ : ItemV)])).1) (⟨#[1, 3, 232]⟩)))) && (((encodeM (⟨3, [(⟨⟨#[104, 101, 97, 116]⟩, ⟨#[116, 101, 109, 112]⟩, 1, 5, -400, []⟩ : FieldV)]⟩ : Codec) (⟨[(⟨⟨#[104, 101, 97, 116]⟩, [(⟨⟨#[116, 101, 109, 112]⟩, 2, -500, 1000, [], false, false⟩ : Attr)], [], []⟩ : Cluster)], [(⟨7, 1, 3, false, 0, ⟨#[104, 97, 108, 108]⟩, [⟨#[104, 101, 97, 116]⟩]⟩ : Dev)]⟩ : Home) ([(⟨⟨7, ⟨#[104, 101, 97, 116]⟩, ⟨#[116, 101, 109, 112]⟩⟩, ⟨2, 100, ⟨#[]⟩⟩, 5⟩ : ItemV)])).2) == 0))
theorem awakeM_ok  :
 ACalls Try.prog G_ 9 [] [] 0 (fun r τ => r = vb (awakeM ) ∧ τ = []) := by
 refine ACalls.body Try.func9 rfl 63 [] ?_
 refine AWp.hz [.run 1] 63 [] [] 0 ?_
 refine AWp.hz [.run 1, .nils 8 [none, none, none, none, some 1, none, none], .lit 51 7 (List.map Attr.cells [(⟨⟨#[116, 101, 109, 112]⟩, 2, -500, 1000, [], false, false⟩ : Attr)]), .run 1, .nils 10 [none, none, some 9, some 1], .lit 58 4 (List.map Cluster.cells [(⟨⟨#[104, 101, 97, 116]⟩, [(⟨⟨#[116, 101, 109, 112]⟩, 2, -500, 1000, [], false, false⟩ : Attr)], [], []⟩ : Cluster)]), .lit 9 1 (List.map strC [⟨#[104, 101, 97, 116]⟩]), .run 1, .lit 61 7 (List.map Dev.cells [(⟨7, 1, 3, false, 0, ⟨#[104, 97, 108, 108]⟩, [⟨#[104, 101, 97, 116]⟩]⟩ : Dev)]), .run 3] 63 [(1, .ptr 0 0)] [(0, .box 28 [.rv (.sl 4 (([(⟨⟨#[104, 101, 97, 116]⟩, [(⟨⟨#[116, 101, 109, 112]⟩, 2, -500, 1000, [], false, false⟩ : Attr)], [], []⟩ : Cluster)]).map Cluster.cells)), .rv (.sl 7 (([(⟨7, 1, 3, false, 0, ⟨#[104, 97, 108, 108]⟩, [⟨#[104, 101, 97, 116]⟩]⟩ : Dev)]).map Dev.cells))])] 1 ?_
 refine AWp.hz [.run 1, .nils 16 [none, none, none, none, none, some 1], .lit 64 6 (List.map FieldV.cells [(⟨⟨#[104, 101, 97, 116]⟩, ⟨#[116, 101, 109, 112]⟩, 1, 5, -400, []⟩ : FieldV)]), .run 3] 63 [(1, .ptr 0 0), (2, .ptr 1 0)] [(1, .box 24 [vi 3, .rv (.sl 6 (([(⟨⟨#[104, 101, 97, 116]⟩, ⟨#[116, 101, 109, 112]⟩, 1, 5, -400, []⟩ : FieldV)]).map FieldV.cells))]), (0, .box 28 [.rv (.sl 4 (([(⟨⟨#[104, 101, 97, 116]⟩, [(⟨⟨#[116, 101, 109, 112]⟩, 2, -500, 1000, [], false, false⟩ : Attr)], [], []⟩ : Cluster)]).map Cluster.cells)), .rv (.sl 7 (([(⟨7, 1, 3, false, 0, ⟨#[104, 97, 108, 108]⟩, [⟨#[104, 101, 97, 116]⟩]⟩ : Dev)]).map Dev.cells))])] 2 ?_
 refine AWp.hz [.run 3] 63 [(1, .ptr 0 0), (2, .ptr 1 0), (3, .ptr 2 0)] [(2, .box 44 [vi 7, vs (⟨#[104, 101, 97, 116]⟩), vs (⟨#[116, 101, 109, 112]⟩)]), (1, .box 24 [vi 3, .rv (.sl 6 (([(⟨⟨#[104, 101, 97, 116]⟩, ⟨#[116, 101, 109, 112]⟩, 1, 5, -400, []⟩ : FieldV)]).map FieldV.cells))]), (0, .box 28 [.rv (.sl 4 (([(⟨⟨#[104, 101, 97, 116]⟩, [(⟨⟨#[116, 101, 109, 112]⟩, 2, -500, 1000, [], false, false⟩ : Attr)], [], []⟩ : Cluster)]).map Cluster.cells)), .rv (.sl 7 (([(⟨7, 1, 3, false, 0, ⟨#[104, 97, 108, 108]⟩, [⟨#[104, 101, 97, 116]⟩]⟩ : Dev)]).map Dev.cells))])] 3 ?_
 refine AWp.hz [.run 2, .call 12 [.agg [vi 3, .rv (.sl 6 (([(⟨⟨#[104, 101, 97, 116]⟩, ⟨#[116, 101, 109, 112]⟩, 1, 5, -400, []⟩ : FieldV)]).map FieldV.cells))], .agg [.rv (.sl 4 (([(⟨⟨#[104, 101, 97, 116]⟩, [(⟨⟨#[116, 101, 109, 112]⟩, 2, -500, 1000, [], false, false⟩ : Attr)], [], []⟩ : Cluster)]).map Cluster.cells)), .rv (.sl 7 (([(⟨7, 1, 3, false, 0, ⟨#[104, 97, 108, 108]⟩, [⟨#[104, 101, 97, 116]⟩]⟩ : Dev)]).map Dev.cells))], vi 7, vs (⟨#[1, 3, 233, 1, 255, 255]⟩)] (.tuple [.rv (.sl 7 (((decodeM (⟨3, [(⟨⟨#[104, 101, 97, 116]⟩, ⟨#[116, 101, 109, 112]⟩, 1, 5, -400, []⟩ : FieldV)]⟩ : Codec) (⟨[(⟨⟨#[104, 101, 97, 116]⟩, [(⟨⟨#[116, 101, 109, 112]⟩, 2, -500, 1000, [], false, false⟩ : Attr)], [], []⟩ : Cluster)], [(⟨7, 1, 3, false, 0, ⟨#[104, 97, 108, 108]⟩, [⟨#[104, 101, 97, 116]⟩]⟩ : Dev)]⟩ : Home) 7 (⟨#[1, 3, 233, 1, 255, 255]⟩)).1).map ItemV.cells)), vi ((decodeM (⟨3, [(⟨⟨#[104, 101, 97, 116]⟩, ⟨#[116, 101, 109, 112]⟩, 1, 5, -400, []⟩ : FieldV)]⟩ : Codec) (⟨[(⟨⟨#[104, 101, 97, 116]⟩, [(⟨⟨#[116, 101, 109, 112]⟩, 2, -500, 1000, [], false, false⟩ : Attr)], [], []⟩ : Cluster)], [(⟨7, 1, 3, false, 0, ⟨#[104, 97, 108, 108]⟩, [⟨#[104, 101, 97, 116]⟩]⟩ : Dev)]⟩ : Home) 7 (⟨#[1, 3, 233, 1, 255, 255]⟩)).2)]) [] 0 (decodeM_ok (⟨3, [(⟨⟨#[104, 101, 97, 116]⟩, ⟨#[116, 101, 109, 112]⟩, 1, 5, -400, []⟩ : FieldV)]⟩ : Codec) (⟨[(⟨⟨#[104, 101, 97, 116]⟩, [(⟨⟨#[116, 101, 109, 112]⟩, 2, -500, 1000, [], false, false⟩ : Attr)], [], []⟩ : Cluster)], [(⟨7, 1, 3, false, 0, ⟨#[104, 97, 108, 108]⟩, [⟨#[104, 101, 97, 116]⟩]⟩ : Dev)]⟩ : Home) 7 (⟨#[1, 3, 233, 1, 255, 255]⟩) (by first | exact Nat.le_of_ble_eq_true rfl | omega)), .run 5] 63 [(1, .ptr 0 0), (2, .ptr 1 0), (3, .ptr 2 0), (4, .rv (.sl 7 (((decodeM (⟨3, [(⟨⟨#[104, 101, 97, 116]⟩, ⟨#[116, 101, 109, 112]⟩, 1, 5, -400, []⟩ : FieldV)]⟩ : Codec) (⟨[(⟨⟨#[104, 101, 97, 116]⟩, [(⟨⟨#[116, 101, 109, 112]⟩, 2, -500, 1000, [], false, false⟩ : Attr)], [], []⟩ : Cluster)], [(⟨7, 1, 3, false, 0, ⟨#[104, 97, 108, 108]⟩, [⟨#[104, 101, 97, 116]⟩]⟩ : Dev)]⟩ : Home) 7 (⟨#[1, 3, 233, 1, 255, 255]⟩)).1).map ItemV.cells))), (5, vi ((decodeM (⟨3, [(⟨⟨#[104, 101, 97, 116]⟩, ⟨#[116, 101, 109, 112]⟩, 1, 5, -400, []⟩ : FieldV)]⟩ : Codec) (⟨[(⟨⟨#[104, 101, 97, 116]⟩, [(⟨⟨#[116, 101, 109, 112]⟩, 2, -500, 1000, [], false, false⟩ : Attr)], [], []⟩ : Cluster)], [(⟨7, 1, 3, false, 0, ⟨#[104, 97, 108, 108]⟩, [⟨#[104, 101, 97, 116]⟩]⟩ : Dev)]⟩ : Home) 7 (⟨#[1, 3, 233, 1, 255, 255]⟩)).2))] [(2, .box 44 [vi 7, vs (⟨#[104, 101, 97, 116]⟩), vs (⟨#[116, 101, 109, 112]⟩)]), (1, .box 24 [vi 3, .rv (.sl 6 (([(⟨⟨#[104, 101, 97, 116]⟩, ⟨#[116, 101, 109, 112]⟩, 1, 5, -400, []⟩ : FieldV)]).map FieldV.cells))]), (0, .box 28 [.rv (.sl 4 (([(⟨⟨#[104, 101, 97, 116]⟩, [(⟨⟨#[116, 101, 109, 112]⟩, 2, -500, 1000, [], false, false⟩ : Attr)], [], []⟩ : Cluster)]).map Cluster.cells)), .rv (.sl 7 (([(⟨7, 1, 3, false, 0, ⟨#[104, 97, 108, 108]⟩, [⟨#[104, 101, 97, 116]⟩]⟩ : Dev)]).map Dev.cells))])] 3 ?_
 refine AWp.hz [.run 5, .lit 48 7 (List.map ItemV.cells [(⟨⟨7, ⟨#[104, 101, 97, 116]⟩, ⟨#[116, 101, 109, 112]⟩⟩, ⟨2, 100, ⟨#[]⟩⟩, 5⟩ : ItemV)]), .call 15 [.agg [vi 3, .rv (.sl 6 (([(⟨⟨#[104, 101, 97, 116]⟩, ⟨#[116, 101, 109, 112]⟩, 1, 5, -400, []⟩ : FieldV)]).map FieldV.cells))], .agg [.rv (.sl 4 (([(⟨⟨#[104, 101, 97, 116]⟩, [(⟨⟨#[116, 101, 109, 112]⟩, 2, -500, 1000, [], false, false⟩ : Attr)], [], []⟩ : Cluster)]).map Cluster.cells)), .rv (.sl 7 (([(⟨7, 1, 3, false, 0, ⟨#[104, 97, 108, 108]⟩, [⟨#[104, 101, 97, 116]⟩]⟩ : Dev)]).map Dev.cells))], .rv (.sl 7 (([(⟨⟨7, ⟨#[104, 101, 97, 116]⟩, ⟨#[116, 101, 109, 112]⟩⟩, ⟨2, 100, ⟨#[]⟩⟩, 5⟩ : ItemV)]).map ItemV.cells))] (.tuple [vs ((encodeM (⟨3, [(⟨⟨#[104, 101, 97, 116]⟩, ⟨#[116, 101, 109, 112]⟩, 1, 5, -400, []⟩ : FieldV)]⟩ : Codec) (⟨[(⟨⟨#[104, 101, 97, 116]⟩, [(⟨⟨#[116, 101, 109, 112]⟩, 2, -500, 1000, [], false, false⟩ : Attr)], [], []⟩ : Cluster)], [(⟨7, 1, 3, false, 0, ⟨#[104, 97, 108, 108]⟩, [⟨#[104, 101, 97, 116]⟩]⟩ : Dev)]⟩ : Home) ([(⟨⟨7, ⟨#[104, 101, 97, 116]⟩, ⟨#[116, 101, 109, 112]⟩⟩, ⟨2, 100, ⟨#[]⟩⟩, 5⟩ : ItemV)])).1), vi ((encodeM (⟨3, [(⟨⟨#[104, 101, 97, 116]⟩, ⟨#[116, 101, 109, 112]⟩, 1, 5, -400, []⟩ : FieldV)]⟩ : Codec) (⟨[(⟨⟨#[104, 101, 97, 116]⟩, [(⟨⟨#[116, 101, 109, 112]⟩, 2, -500, 1000, [], false, false⟩ : Attr)], [], []⟩ : Cluster)], [(⟨7, 1, 3, false, 0, ⟨#[104, 97, 108, 108]⟩, [⟨#[104, 101, 97, 116]⟩]⟩ : Dev)]⟩ : Home) ([(⟨⟨7, ⟨#[104, 101, 97, 116]⟩, ⟨#[116, 101, 109, 112]⟩⟩, ⟨2, 100, ⟨#[]⟩⟩, 5⟩ : ItemV)])).2)]) [] 0 (encodeM_ok (⟨3, [(⟨⟨#[104, 101, 97, 116]⟩, ⟨#[116, 101, 109, 112]⟩, 1, 5, -400, []⟩ : FieldV)]⟩ : Codec) (⟨[(⟨⟨#[104, 101, 97, 116]⟩, [(⟨⟨#[116, 101, 109, 112]⟩, 2, -500, 1000, [], false, false⟩ : Attr)], [], []⟩ : Cluster)], [(⟨7, 1, 3, false, 0, ⟨#[104, 97, 108, 108]⟩, [⟨#[104, 101, 97, 116]⟩]⟩ : Dev)]⟩ : Home) ([(⟨⟨7, ⟨#[104, 101, 97, 116]⟩, ⟨#[116, 101, 109, 112]⟩⟩, ⟨2, 100, ⟨#[]⟩⟩, 5⟩ : ItemV)]) (by first | exact Nat.le_of_ble_eq_true rfl | omega)), .run 5] 63 [(1, .ptr 0 0), (2, .ptr 1 0), (3, .ptr 2 0), (4, .rv (.sl 7 (((decodeM (⟨3, [(⟨⟨#[104, 101, 97, 116]⟩, ⟨#[116, 101, 109, 112]⟩, 1, 5, -400, []⟩ : FieldV)]⟩ : Codec) (⟨[(⟨⟨#[104, 101, 97, 116]⟩, [(⟨⟨#[116, 101, 109, 112]⟩, 2, -500, 1000, [], false, false⟩ : Attr)], [], []⟩ : Cluster)], [(⟨7, 1, 3, false, 0, ⟨#[104, 97, 108, 108]⟩, [⟨#[104, 101, 97, 116]⟩]⟩ : Dev)]⟩ : Home) 7 (⟨#[1, 3, 233, 1, 255, 255]⟩)).1).map ItemV.cells))), (5, vi ((decodeM (⟨3, [(⟨⟨#[104, 101, 97, 116]⟩, ⟨#[116, 101, 109, 112]⟩, 1, 5, -400, []⟩ : FieldV)]⟩ : Codec) (⟨[(⟨⟨#[104, 101, 97, 116]⟩, [(⟨⟨#[116, 101, 109, 112]⟩, 2, -500, 1000, [], false, false⟩ : Attr)], [], []⟩ : Cluster)], [(⟨7, 1, 3, false, 0, ⟨#[104, 97, 108, 108]⟩, [⟨#[104, 101, 97, 116]⟩]⟩ : Dev)]⟩ : Home) 7 (⟨#[1, 3, 233, 1, 255, 255]⟩)).2)), (6, vs ((encodeM (⟨3, [(⟨⟨#[104, 101, 97, 116]⟩, ⟨#[116, 101, 109, 112]⟩, 1, 5, -400, []⟩ : FieldV)]⟩ : Codec) (⟨[(⟨⟨#[104, 101, 97, 116]⟩, [(⟨⟨#[116, 101, 109, 112]⟩, 2, -500, 1000, [], false, false⟩ : Attr)], [], []⟩ : Cluster)], [(⟨7, 1, 3, false, 0, ⟨#[104, 97, 108, 108]⟩, [⟨#[104, 101, 97, 116]⟩]⟩ : Dev)]⟩ : Home) ([(⟨⟨7, ⟨#[104, 101, 97, 116]⟩, ⟨#[116, 101, 109, 112]⟩⟩, ⟨2, 100, ⟨#[]⟩⟩, 5⟩ : ItemV)])).1)), (7, vi ((encodeM (⟨3, [(⟨⟨#[104, 101, 97, 116]⟩, ⟨#[116, 101, 109, 112]⟩, 1, 5, -400, []⟩ : FieldV)]⟩ : Codec) (⟨[(⟨⟨#[104, 101, 97, 116]⟩, [(⟨⟨#[116, 101, 109, 112]⟩, 2, -500, 1000, [], false, false⟩ : Attr)], [], []⟩ : Cluster)], [(⟨7, 1, 3, false, 0, ⟨#[104, 97, 108, 108]⟩, [⟨#[104, 101, 97, 116]⟩]⟩ : Dev)]⟩ : Home) ([(⟨⟨7, ⟨#[104, 101, 97, 116]⟩, ⟨#[116, 101, 109, 112]⟩⟩, ⟨2, 100, ⟨#[]⟩⟩, 5⟩ : ItemV)])).2))] [(2, .box 44 [vi 7, vs (⟨#[104, 101, 97, 116]⟩), vs (⟨#[116, 101, 109, 112]⟩)]), (1, .box 24 [vi 3, .rv (.sl 6 (([(⟨⟨#[104, 101, 97, 116]⟩, ⟨#[116, 101, 109, 112]⟩, 1, 5, -400, []⟩ : FieldV)]).map FieldV.cells))]), (0, .box 28 [.rv (.sl 4 (([(⟨⟨#[104, 101, 97, 116]⟩, [(⟨⟨#[116, 101, 109, 112]⟩, 2, -500, 1000, [], false, false⟩ : Attr)], [], []⟩ : Cluster)]).map Cluster.cells)), .rv (.sl 7 (([(⟨7, 1, 3, false, 0, ⟨#[104, 97, 108, 108]⟩, [⟨#[104, 101, 97, 116]⟩]⟩ : Dev)]).map Dev.cells))])] 3 ?_
 refine AWp.join (Z 63 [(0, vb (((venCheckM (⟨3, [(⟨⟨#[104, 101, 97, 116]⟩, ⟨#[116, 101, 109, 112]⟩, 1, 5, -400, []⟩ : FieldV)]⟩ : Codec) (⟨[(⟨⟨#[104, 101, 97, 116]⟩, [(⟨⟨#[116, 101, 109, 112]⟩, 2, -500, 1000, [], false, false⟩ : Attr)], [], []⟩ : Cluster)], [(⟨7, 1, 3, false, 0, ⟨#[104, 97, 108, 108]⟩, [⟨#[104, 101, 97, 116]⟩]⟩ : Dev)]⟩ : Home) == 0) && ((((decodeM (⟨3, [(⟨⟨#[104, 101, 97, 116]⟩, ⟨#[116, 101, 109, 112]⟩, 1, 5, -400, []⟩ : FieldV)]⟩ : Codec) (⟨[(⟨⟨#[104, 101, 97, 116]⟩, [(⟨⟨#[116, 101, 109, 112]⟩, 2, -500, 1000, [], false, false⟩ : Attr)], [], []⟩ : Cluster)], [(⟨7, 1, 3, false, 0, ⟨#[104, 97, 108, 108]⟩, [⟨#[104, 101, 97, 116]⟩]⟩ : Dev)]⟩ : Home) 7 (⟨#[1, 3, 233, 1, 255, 255]⟩)).2) == 0) && (sameItemsM ((decodeM (⟨3, [(⟨⟨#[104, 101, 97, 116]⟩, ⟨#[116, 101, 109, 112]⟩, 1, 5, -400, []⟩ : FieldV)]⟩ : Codec) (⟨[(⟨⟨#[104, 101, 97, 116]⟩, [(⟨⟨#[116, 101, 109, 112]⟩, 2, -500, 1000, [], false, false⟩ : Attr)], [], []⟩ : Cluster)], [(⟨7, 1, 3, false, 0, ⟨#[104, 97, 108, 108]⟩, [⟨#[104, 101, 97, 116]⟩]⟩ : Dev)]⟩ : Home) 7 (⟨#[1, 3, 233, 1, 255, 255]⟩)).1) ([(⟨⟨7, ⟨#[104, 101, 97, 116]⟩, ⟨#[116, 101, 109, 112]⟩⟩, ⟨2, 100, ⟨#[]⟩⟩, 0⟩ : ItemV), (⟨⟨7, ⟨#[104, 101, 97, 116]⟩, ⟨#[116, 101, 109, 112]⟩⟩, ⟨2, -401, ⟨#[]⟩⟩, 0⟩ : ItemV)]) && beqS ((encodeM (⟨3, [(⟨⟨#[104, 101, 97, 116]⟩, ⟨#[116, 101, 109, 112]⟩, 1, 5, -400, []⟩ : FieldV)]⟩ : Codec) (⟨[(⟨⟨#[104, 101, 97, 116]⟩, [(⟨⟨#[116, 101, 109, 112]⟩, 2, -500, 1000, [], false, false⟩ : Attr)], [], []⟩ : Cluster)], [(⟨7, 1, 3, false, 0, ⟨#[104, 97, 108, 108]⟩, [⟨#[104, 101, 97, 116]⟩]⟩ : Dev)]⟩ : Home) ([(⟨⟨7, ⟨#[104, 101, 97, 116]⟩, ⟨#[116, 101, 109, 112]⟩⟩, ⟨2, 100, ⟨#[]⟩⟩, 5⟩ : ItemV)])).1) (⟨#[1, 3, 232]⟩)))) && (((encodeM (⟨3, [(⟨⟨#[104, 101, 97, 116]⟩, ⟨#[116, 101, 109, 112]⟩, 1, 5, -400, []⟩ : FieldV)]⟩ : Codec) (⟨[(⟨⟨#[104, 101, 97, 116]⟩, [(⟨⟨#[116, 101, 109, 112]⟩, 2, -500, 1000, [], false, false⟩ : Attr)], [], []⟩ : Cluster)], [(⟨7, 1, 3, false, 0, ⟨#[104, 97, 108, 108]⟩, [⟨#[104, 101, 97, 116]⟩]⟩ : Dev)]⟩ : Home) ([(⟨⟨7, ⟨#[104, 101, 97, 116]⟩, ⟨#[116, 101, 109, 112]⟩⟩, ⟨2, 100, ⟨#[]⟩⟩, 5⟩ : ItemV)])).2) == 0)))] [] 3) ?_ ?_
 ·
  refine AWp.region ?_
  refine AOps.hg [.run 2, .call 10 [.agg [vi 3, .rv (.sl 6 (([(⟨⟨#[104, 101, 97, 116]⟩, ⟨#[116, 101, 109, 112]⟩, 1, 5, -400, []⟩ : FieldV)]).map FieldV.cells))], .agg [.rv (.sl 4 (([(⟨⟨#[104, 101, 97, 116]⟩, [(⟨⟨#[116, 101, 109, 112]⟩, 2, -500, 1000, [], false, false⟩ : Attr)], [], []⟩ : Cluster)]).map Cluster.cells)), .rv (.sl 7 (([(⟨7, 1, 3, false, 0, ⟨#[104, 97, 108, 108]⟩, [⟨#[104, 101, 97, 116]⟩]⟩ : Dev)]).map Dev.cells))]] (vi (venCheckM (⟨3, [(⟨⟨#[104, 101, 97, 116]⟩, ⟨#[116, 101, 109, 112]⟩, 1, 5, -400, []⟩ : FieldV)]⟩ : Codec) (⟨[(⟨⟨#[104, 101, 97, 116]⟩, [(⟨⟨#[116, 101, 109, 112]⟩, 2, -500, 1000, [], false, false⟩ : Attr)], [], []⟩ : Cluster)], [(⟨7, 1, 3, false, 0, ⟨#[104, 97, 108, 108]⟩, [⟨#[104, 101, 97, 116]⟩]⟩ : Dev)]⟩ : Home))) [] 0 (venCheckM_ok (⟨3, [(⟨⟨#[104, 101, 97, 116]⟩, ⟨#[116, 101, 109, 112]⟩, 1, 5, -400, []⟩ : FieldV)]⟩ : Codec) (⟨[(⟨⟨#[104, 101, 97, 116]⟩, [(⟨⟨#[116, 101, 109, 112]⟩, 2, -500, 1000, [], false, false⟩ : Attr)], [], []⟩ : Cluster)], [(⟨7, 1, 3, false, 0, ⟨#[104, 97, 108, 108]⟩, [⟨#[104, 101, 97, 116]⟩]⟩ : Dev)]⟩ : Home)), .run 2] ((venCheckM (⟨3, [(⟨⟨#[104, 101, 97, 116]⟩, ⟨#[116, 101, 109, 112]⟩, 1, 5, -400, []⟩ : FieldV)]⟩ : Codec) (⟨[(⟨⟨#[104, 101, 97, 116]⟩, [(⟨⟨#[116, 101, 109, 112]⟩, 2, -500, 1000, [], false, false⟩ : Attr)], [], []⟩ : Cluster)], [(⟨7, 1, 3, false, 0, ⟨#[104, 97, 108, 108]⟩, [⟨#[104, 101, 97, 116]⟩]⟩ : Dev)]⟩ : Home) == 0)) 63 (fun b_ => [(3, .ptr 2 0), (4, .rv (.sl 7 (((decodeM (⟨3, [(⟨⟨#[104, 101, 97, 116]⟩, ⟨#[116, 101, 109, 112]⟩, 1, 5, -400, []⟩ : FieldV)]⟩ : Codec) (⟨[(⟨⟨#[104, 101, 97, 116]⟩, [(⟨⟨#[116, 101, 109, 112]⟩, 2, -500, 1000, [], false, false⟩ : Attr)], [], []⟩ : Cluster)], [(⟨7, 1, 3, false, 0, ⟨#[104, 97, 108, 108]⟩, [⟨#[104, 101, 97, 116]⟩]⟩ : Dev)]⟩ : Home) 7 (⟨#[1, 3, 233, 1, 255, 255]⟩)).1).map ItemV.cells))), (5, vi ((decodeM (⟨3, [(⟨⟨#[104, 101, 97, 116]⟩, ⟨#[116, 101, 109, 112]⟩, 1, 5, -400, []⟩ : FieldV)]⟩ : Codec) (⟨[(⟨⟨#[104, 101, 97, 116]⟩, [(⟨⟨#[116, 101, 109, 112]⟩, 2, -500, 1000, [], false, false⟩ : Attr)], [], []⟩ : Cluster)], [(⟨7, 1, 3, false, 0, ⟨#[104, 97, 108, 108]⟩, [⟨#[104, 101, 97, 116]⟩]⟩ : Dev)]⟩ : Home) 7 (⟨#[1, 3, 233, 1, 255, 255]⟩)).2)), (6, vs ((encodeM (⟨3, [(⟨⟨#[104, 101, 97, 116]⟩, ⟨#[116, 101, 109, 112]⟩, 1, 5, -400, []⟩ : FieldV)]⟩ : Codec) (⟨[(⟨⟨#[104, 101, 97, 116]⟩, [(⟨⟨#[116, 101, 109, 112]⟩, 2, -500, 1000, [], false, false⟩ : Attr)], [], []⟩ : Cluster)], [(⟨7, 1, 3, false, 0, ⟨#[104, 97, 108, 108]⟩, [⟨#[104, 101, 97, 116]⟩]⟩ : Dev)]⟩ : Home) ([(⟨⟨7, ⟨#[104, 101, 97, 116]⟩, ⟨#[116, 101, 109, 112]⟩⟩, ⟨2, 100, ⟨#[]⟩⟩, 5⟩ : ItemV)])).1)), (7, vi ((encodeM (⟨3, [(⟨⟨#[104, 101, 97, 116]⟩, ⟨#[116, 101, 109, 112]⟩, 1, 5, -400, []⟩ : FieldV)]⟩ : Codec) (⟨[(⟨⟨#[104, 101, 97, 116]⟩, [(⟨⟨#[116, 101, 109, 112]⟩, 2, -500, 1000, [], false, false⟩ : Attr)], [], []⟩ : Cluster)], [(⟨7, 1, 3, false, 0, ⟨#[104, 97, 108, 108]⟩, [⟨#[104, 101, 97, 116]⟩]⟩ : Dev)]⟩ : Home) ([(⟨⟨7, ⟨#[104, 101, 97, 116]⟩, ⟨#[116, 101, 109, 112]⟩⟩, ⟨2, 100, ⟨#[]⟩⟩, 5⟩ : ItemV)])).2)), (40, vb b_)]) [(2, .box 44 [vi 7, vs (⟨#[104, 101, 97, 116]⟩), vs (⟨#[116, 101, 109, 112]⟩)])] 3 (fun hg1 => ?_) (fun hg1 => ?_)
  ·
   refine AOps.hg [.run 4] ((((decodeM (⟨3, [(⟨⟨#[104, 101, 97, 116]⟩, ⟨#[116, 101, 109, 112]⟩, 1, 5, -400, []⟩ : FieldV)]⟩ : Codec) (⟨[(⟨⟨#[104, 101, 97, 116]⟩, [(⟨⟨#[116, 101, 109, 112]⟩, 2, -500, 1000, [], false, false⟩ : Attr)], [], []⟩ : Cluster)], [(⟨7, 1, 3, false, 0, ⟨#[104, 97, 108, 108]⟩, [⟨#[104, 101, 97, 116]⟩]⟩ : Dev)]⟩ : Home) 7 (⟨#[1, 3, 233, 1, 255, 255]⟩)).2) == 0)) 63 (fun b_ => [(3, .ptr 2 0), (4, .rv (.sl 7 (((decodeM (⟨3, [(⟨⟨#[104, 101, 97, 116]⟩, ⟨#[116, 101, 109, 112]⟩, 1, 5, -400, []⟩ : FieldV)]⟩ : Codec) (⟨[(⟨⟨#[104, 101, 97, 116]⟩, [(⟨⟨#[116, 101, 109, 112]⟩, 2, -500, 1000, [], false, false⟩ : Attr)], [], []⟩ : Cluster)], [(⟨7, 1, 3, false, 0, ⟨#[104, 97, 108, 108]⟩, [⟨#[104, 101, 97, 116]⟩]⟩ : Dev)]⟩ : Home) 7 (⟨#[1, 3, 233, 1, 255, 255]⟩)).1).map ItemV.cells))), (6, vs ((encodeM (⟨3, [(⟨⟨#[104, 101, 97, 116]⟩, ⟨#[116, 101, 109, 112]⟩, 1, 5, -400, []⟩ : FieldV)]⟩ : Codec) (⟨[(⟨⟨#[104, 101, 97, 116]⟩, [(⟨⟨#[116, 101, 109, 112]⟩, 2, -500, 1000, [], false, false⟩ : Attr)], [], []⟩ : Cluster)], [(⟨7, 1, 3, false, 0, ⟨#[104, 97, 108, 108]⟩, [⟨#[104, 101, 97, 116]⟩]⟩ : Dev)]⟩ : Home) ([(⟨⟨7, ⟨#[104, 101, 97, 116]⟩, ⟨#[116, 101, 109, 112]⟩⟩, ⟨2, 100, ⟨#[]⟩⟩, 5⟩ : ItemV)])).1)), (7, vi ((encodeM (⟨3, [(⟨⟨#[104, 101, 97, 116]⟩, ⟨#[116, 101, 109, 112]⟩, 1, 5, -400, []⟩ : FieldV)]⟩ : Codec) (⟨[(⟨⟨#[104, 101, 97, 116]⟩, [(⟨⟨#[116, 101, 109, 112]⟩, 2, -500, 1000, [], false, false⟩ : Attr)], [], []⟩ : Cluster)], [(⟨7, 1, 3, false, 0, ⟨#[104, 97, 108, 108]⟩, [⟨#[104, 101, 97, 116]⟩]⟩ : Dev)]⟩ : Home) ([(⟨⟨7, ⟨#[104, 101, 97, 116]⟩, ⟨#[116, 101, 109, 112]⟩⟩, ⟨2, 100, ⟨#[]⟩⟩, 5⟩ : ItemV)])).2)), (44, vb b_)]) [(2, .box 44 [vi 7, vs (⟨#[104, 101, 97, 116]⟩), vs (⟨#[116, 101, 109, 112]⟩)])] 3 (fun hg2 => ?_) (fun hg2 => ?_)
   ·
    refine AOps.hg [.run 7, .lit 48 7 (List.map ItemV.cells [(⟨⟨7, ⟨#[104, 101, 97, 116]⟩, ⟨#[116, 101, 109, 112]⟩⟩, ⟨2, 100, ⟨#[]⟩⟩, 0⟩ : ItemV), (⟨⟨7, ⟨#[104, 101, 97, 116]⟩, ⟨#[116, 101, 109, 112]⟩⟩, ⟨2, -401, ⟨#[]⟩⟩, 0⟩ : ItemV)]), .call 14 [.rv (.sl 7 (((decodeM (⟨3, [(⟨⟨#[104, 101, 97, 116]⟩, ⟨#[116, 101, 109, 112]⟩, 1, 5, -400, []⟩ : FieldV)]⟩ : Codec) (⟨[(⟨⟨#[104, 101, 97, 116]⟩, [(⟨⟨#[116, 101, 109, 112]⟩, 2, -500, 1000, [], false, false⟩ : Attr)], [], []⟩ : Cluster)], [(⟨7, 1, 3, false, 0, ⟨#[104, 97, 108, 108]⟩, [⟨#[104, 101, 97, 116]⟩]⟩ : Dev)]⟩ : Home) 7 (⟨#[1, 3, 233, 1, 255, 255]⟩)).1).map ItemV.cells)), .rv (.sl 7 (([(⟨⟨7, ⟨#[104, 101, 97, 116]⟩, ⟨#[116, 101, 109, 112]⟩⟩, ⟨2, 100, ⟨#[]⟩⟩, 0⟩ : ItemV), (⟨⟨7, ⟨#[104, 101, 97, 116]⟩, ⟨#[116, 101, 109, 112]⟩⟩, ⟨2, -401, ⟨#[]⟩⟩, 0⟩ : ItemV)]).map ItemV.cells))] (vb (sameItemsM ((decodeM (⟨3, [(⟨⟨#[104, 101, 97, 116]⟩, ⟨#[116, 101, 109, 112]⟩, 1, 5, -400, []⟩ : FieldV)]⟩ : Codec) (⟨[(⟨⟨#[104, 101, 97, 116]⟩, [(⟨⟨#[116, 101, 109, 112]⟩, 2, -500, 1000, [], false, false⟩ : Attr)], [], []⟩ : Cluster)], [(⟨7, 1, 3, false, 0, ⟨#[104, 97, 108, 108]⟩, [⟨#[104, 101, 97, 116]⟩]⟩ : Dev)]⟩ : Home) 7 (⟨#[1, 3, 233, 1, 255, 255]⟩)).1) ([(⟨⟨7, ⟨#[104, 101, 97, 116]⟩, ⟨#[116, 101, 109, 112]⟩⟩, ⟨2, 100, ⟨#[]⟩⟩, 0⟩ : ItemV), (⟨⟨7, ⟨#[104, 101, 97, 116]⟩, ⟨#[116, 101, 109, 112]⟩⟩, ⟨2, -401, ⟨#[]⟩⟩, 0⟩ : ItemV)]))) [] 0 (sameItemsM_ok ((decodeM (⟨3, [(⟨⟨#[104, 101, 97, 116]⟩, ⟨#[116, 101, 109, 112]⟩, 1, 5, -400, []⟩ : FieldV)]⟩ : Codec) (⟨[(⟨⟨#[104, 101, 97, 116]⟩, [(⟨⟨#[116, 101, 109, 112]⟩, 2, -500, 1000, [], false, false⟩ : Attr)], [], []⟩ : Cluster)], [(⟨7, 1, 3, false, 0, ⟨#[104, 97, 108, 108]⟩, [⟨#[104, 101, 97, 116]⟩]⟩ : Dev)]⟩ : Home) 7 (⟨#[1, 3, 233, 1, 255, 255]⟩)).1) ([(⟨⟨7, ⟨#[104, 101, 97, 116]⟩, ⟨#[116, 101, 109, 112]⟩⟩, ⟨2, 100, ⟨#[]⟩⟩, 0⟩ : ItemV), (⟨⟨7, ⟨#[104, 101, 97, 116]⟩, ⟨#[116, 101, 109, 112]⟩⟩, ⟨2, -401, ⟨#[]⟩⟩, 0⟩ : ItemV)])), .run 2] (sameItemsM ((decodeM (⟨3, [(⟨⟨#[104, 101, 97, 116]⟩, ⟨#[116, 101, 109, 112]⟩, 1, 5, -400, []⟩ : FieldV)]⟩ : Codec) (⟨[(⟨⟨#[104, 101, 97, 116]⟩, [(⟨⟨#[116, 101, 109, 112]⟩, 2, -500, 1000, [], false, false⟩ : Attr)], [], []⟩ : Cluster)], [(⟨7, 1, 3, false, 0, ⟨#[104, 97, 108, 108]⟩, [⟨#[104, 101, 97, 116]⟩]⟩ : Dev)]⟩ : Home) 7 (⟨#[1, 3, 233, 1, 255, 255]⟩)).1) ([(⟨⟨7, ⟨#[104, 101, 97, 116]⟩, ⟨#[116, 101, 109, 112]⟩⟩, ⟨2, 100, ⟨#[]⟩⟩, 0⟩ : ItemV), (⟨⟨7, ⟨#[104, 101, 97, 116]⟩, ⟨#[116, 101, 109, 112]⟩⟩, ⟨2, -401, ⟨#[]⟩⟩, 0⟩ : ItemV)])) 63 (fun b_ => [(6, vs ((encodeM (⟨3, [(⟨⟨#[104, 101, 97, 116]⟩, ⟨#[116, 101, 109, 112]⟩, 1, 5, -400, []⟩ : FieldV)]⟩ : Codec) (⟨[(⟨⟨#[104, 101, 97, 116]⟩, [(⟨⟨#[116, 101, 109, 112]⟩, 2, -500, 1000, [], false, false⟩ : Attr)], [], []⟩ : Cluster)], [(⟨7, 1, 3, false, 0, ⟨#[104, 97, 108, 108]⟩, [⟨#[104, 101, 97, 116]⟩]⟩ : Dev)]⟩ : Home) ([(⟨⟨7, ⟨#[104, 101, 97, 116]⟩, ⟨#[116, 101, 109, 112]⟩⟩, ⟨2, 100, ⟨#[]⟩⟩, 5⟩ : ItemV)])).1)), (7, vi ((encodeM (⟨3, [(⟨⟨#[104, 101, 97, 116]⟩, ⟨#[116, 101, 109, 112]⟩, 1, 5, -400, []⟩ : FieldV)]⟩ : Codec) (⟨[(⟨⟨#[104, 101, 97, 116]⟩, [(⟨⟨#[116, 101, 109, 112]⟩, 2, -500, 1000, [], false, false⟩ : Attr)], [], []⟩ : Cluster)], [(⟨7, 1, 3, false, 0, ⟨#[104, 97, 108, 108]⟩, [⟨#[104, 101, 97, 116]⟩]⟩ : Dev)]⟩ : Home) ([(⟨⟨7, ⟨#[104, 101, 97, 116]⟩, ⟨#[116, 101, 109, 112]⟩⟩, ⟨2, 100, ⟨#[]⟩⟩, 5⟩ : ItemV)])).2)), (55, vb b_)]) [] 3 (fun hg3 => ?_) (fun hg3 => ?_)
    ·
     refine AOps.hg [.run 4] (beqS ((encodeM (⟨3, [(⟨⟨#[104, 101, 97, 116]⟩, ⟨#[116, 101, 109, 112]⟩, 1, 5, -400, []⟩ : FieldV)]⟩ : Codec) (⟨[(⟨⟨#[104, 101, 97, 116]⟩, [(⟨⟨#[116, 101, 109, 112]⟩, 2, -500, 1000, [], false, false⟩ : Attr)], [], []⟩ : Cluster)], [(⟨7, 1, 3, false, 0, ⟨#[104, 97, 108, 108]⟩, [⟨#[104, 101, 97, 116]⟩]⟩ : Dev)]⟩ : Home) ([(⟨⟨7, ⟨#[104, 101, 97, 116]⟩, ⟨#[116, 101, 109, 112]⟩⟩, ⟨2, 100, ⟨#[]⟩⟩, 5⟩ : ItemV)])).1) (⟨#[1, 3, 232]⟩)) 63 (fun b_ => [(7, vi ((encodeM (⟨3, [(⟨⟨#[104, 101, 97, 116]⟩, ⟨#[116, 101, 109, 112]⟩, 1, 5, -400, []⟩ : FieldV)]⟩ : Codec) (⟨[(⟨⟨#[104, 101, 97, 116]⟩, [(⟨⟨#[116, 101, 109, 112]⟩, 2, -500, 1000, [], false, false⟩ : Attr)], [], []⟩ : Cluster)], [(⟨7, 1, 3, false, 0, ⟨#[104, 97, 108, 108]⟩, [⟨#[104, 101, 97, 116]⟩]⟩ : Dev)]⟩ : Home) ([(⟨⟨7, ⟨#[104, 101, 97, 116]⟩, ⟨#[116, 101, 109, 112]⟩⟩, ⟨2, 100, ⟨#[]⟩⟩, 5⟩ : ItemV)])).2)), (59, vb b_)]) [] 3 (fun hg4 => ?_) (fun hg4 => ?_)
     ·
      refine AOps.he [.run 4] 63 [(0, vb (((encodeM (⟨3, [(⟨⟨#[104, 101, 97, 116]⟩, ⟨#[116, 101, 109, 112]⟩, 1, 5, -400, []⟩ : FieldV)]⟩ : Codec) (⟨[(⟨⟨#[104, 101, 97, 116]⟩, [(⟨⟨#[116, 101, 109, 112]⟩, 2, -500, 1000, [], false, false⟩ : Attr)], [], []⟩ : Cluster)], [(⟨7, 1, 3, false, 0, ⟨#[104, 97, 108, 108]⟩, [⟨#[104, 101, 97, 116]⟩]⟩ : Dev)]⟩ : Home) ([(⟨⟨7, ⟨#[104, 101, 97, 116]⟩, ⟨#[116, 101, 109, 112]⟩⟩, ⟨2, 100, ⟨#[]⟩⟩, 5⟩ : ItemV)])).2) == 0))] [] 3 ?_
      exact leZ (by rw [hg1, hg2, hg3, hg4]; first | done | kernel_rfl)
     ·
      refine AOps.he [.run 4] 63 [(0, vb false)] [] 3 ?_
      exact leZ (by rw [hg1, hg2, hg3, hg4]; first | done | kernel_rfl)
    ·
     refine AOps.he [.run 8] 63 [(0, vb false)] [] 3 ?_
     exact leZ (by rw [hg1, hg2, hg3]; first | done | kernel_rfl)
   ·
    refine AOps.he [.run 19] 63 [(0, vb false)] [] 3 ?_
    exact leZ (by rw [hg1, hg2]; first | done | kernel_rfl)
  ·
   refine AOps.he [.run 23] 63 [(0, vb false)] [] 3 ?_
   exact leZ (by rw [hg1]; first | done | kernel_rfl)
 ·
  refine AWp.ret ?_
  exact leafR (r := vb (((venCheckM (⟨3, [(⟨⟨#[104, 101, 97, 116]⟩, ⟨#[116, 101, 109, 112]⟩, 1, 5, -400, []⟩ : FieldV)]⟩ : Codec) (⟨[(⟨⟨#[104, 101, 97, 116]⟩, [(⟨⟨#[116, 101, 109, 112]⟩, 2, -500, 1000, [], false, false⟩ : Attr)], [], []⟩ : Cluster)], [(⟨7, 1, 3, false, 0, ⟨#[104, 97, 108, 108]⟩, [⟨#[104, 101, 97, 116]⟩]⟩ : Dev)]⟩ : Home) == 0) && ((((decodeM (⟨3, [(⟨⟨#[104, 101, 97, 116]⟩, ⟨#[116, 101, 109, 112]⟩, 1, 5, -400, []⟩ : FieldV)]⟩ : Codec) (⟨[(⟨⟨#[104, 101, 97, 116]⟩, [(⟨⟨#[116, 101, 109, 112]⟩, 2, -500, 1000, [], false, false⟩ : Attr)], [], []⟩ : Cluster)], [(⟨7, 1, 3, false, 0, ⟨#[104, 97, 108, 108]⟩, [⟨#[104, 101, 97, 116]⟩]⟩ : Dev)]⟩ : Home) 7 (⟨#[1, 3, 233, 1, 255, 255]⟩)).2) == 0) && (sameItemsM ((decodeM (⟨3, [(⟨⟨#[104, 101, 97, 116]⟩, ⟨#[116, 101, 109, 112]⟩, 1, 5, -400, []⟩ : FieldV)]⟩ : Codec) (⟨[(⟨⟨#[104, 101, 97, 116]⟩, [(⟨⟨#[116, 101, 109, 112]⟩, 2, -500, 1000, [], false, false⟩ : Attr)], [], []⟩ : Cluster)], [(⟨7, 1, 3, false, 0, ⟨#[104, 97, 108, 108]⟩, [⟨#[104, 101, 97, 116]⟩]⟩ : Dev)]⟩ : Home) 7 (⟨#[1, 3, 233, 1, 255, 255]⟩)).1) ([(⟨⟨7, ⟨#[104, 101, 97, 116]⟩, ⟨#[116, 101, 109, 112]⟩⟩, ⟨2, 100, ⟨#[]⟩⟩, 0⟩ : ItemV), (⟨⟨7, ⟨#[104, 101, 97, 116]⟩, ⟨#[116, 101, 109, 112]⟩⟩, ⟨2, -401, ⟨#[]⟩⟩, 0⟩ : ItemV)]) && beqS ((encodeM (⟨3, [(⟨⟨#[104, 101, 97, 116]⟩, ⟨#[116, 101, 109, 112]⟩, 1, 5, -400, []⟩ : FieldV)]⟩ : Codec) (⟨[(⟨⟨#[104, 101, 97, 116]⟩, [(⟨⟨#[116, 101, 109, 112]⟩, 2, -500, 1000, [], false, false⟩ : Attr)], [], []⟩ : Cluster)], [(⟨7, 1, 3, false, 0, ⟨#[104, 97, 108, 108]⟩, [⟨#[104, 101, 97, 116]⟩]⟩ : Dev)]⟩ : Home) ([(⟨⟨7, ⟨#[104, 101, 97, 116]⟩, ⟨#[116, 101, 109, 112]⟩⟩, ⟨2, 100, ⟨#[]⟩⟩, 5⟩ : ItemV)])).1) (⟨#[1, 3, 232]⟩)))) && (((encodeM (⟨3, [(⟨⟨#[104, 101, 97, 116]⟩, ⟨#[116, 101, 109, 112]⟩, 1, 5, -400, []⟩ : FieldV)]⟩ : Codec) (⟨[(⟨⟨#[104, 101, 97, 116]⟩, [(⟨⟨#[116, 101, 109, 112]⟩, 2, -500, 1000, [], false, false⟩ : Attr)], [], []⟩ : Cluster)], [(⟨7, 1, 3, false, 0, ⟨#[104, 97, 108, 108]⟩, [⟨#[104, 101, 97, 116]⟩]⟩ : Dev)]⟩ : Home) ([(⟨⟨7, ⟨#[104, 101, 97, 116]⟩, ⟨#[116, 101, 109, 112]⟩⟩, ⟨2, 100, ⟨#[]⟩⟩, 5⟩ : ItemV)])).2) == 0))) (by unfold awakeM; first | done | kernel_rfl)
theorem awake_true : awakeM = true := by kernel_rfl
theorem awake_ok : ACalls Try.prog G_ 9 [] [] 0 (fun r τ => r = vb true ∧ τ = []) := awake_true ▸ awakeM_ok
def largeM_B1 (c : Codec) (h : Home) (k1_ : Nat) : Option Bool :=
  (match (h.clusters)[k1_]? with | some e1_ => (bif ((decide (((e1_.attrs.length : Nat) : Int) > 15) || decide (((e1_.commands.length : Nat) : Int) > 15)) || decide (((e1_.events.length : Nat) : Int) > 15)) then some true else none) | none => none)
def largeM_L1 (c : Codec) (h : Home) : Option Bool := scanN (largeM_B1 c h) 0 h.clusters.length
def largeM_B2 (c : Codec) (h : Home) (k2_ : Nat) : Option Bool :=
  (match (h.devices)[k2_]? with | some e2_ => (bif decide (((e2_.clusters.length : Nat) : Int) > 15) then some true else none) | none => none)
def largeM_L2 (c : Codec) (h : Home) : Option Bool := scanN (largeM_B2 c h) 0 h.devices.length
def largeM_B3 (c : Codec) (h : Home) (k3_ : Nat) : Option Bool :=
  (match (c.fields)[k3_]? with | some e3_ => (bif decide (((e3_.map.length : Nat) : Int) > 70) then some true else none) | none => none)
def largeM_L3 (c : Codec) (h : Home) : Option Bool := scanN (largeM_B3 c h) 0 c.fields.length
def largeM (c : Codec) (h : Home) : Bool :=
  (((decide (((h.clusters.length : Nat) : Int) > 12) || decide (((h.devices.length : Nat) : Int) > 24)) || decide (((c.fields.length : Nat) : Int) > 40)) || (largeM_L1 c h).getD ((largeM_L2 c h).getD ((largeM_L3 c h).getD false)))
theorem largeM_ok (c : Codec) (h : Home) :
 ACalls Try.prog G_ 8 [.agg (avs (Codec.cells c)), .agg (avs (Home.cells h))] [] 0 (fun r τ => r = vb (largeM c h) ∧ τ = []) := by
 refine ACalls.body Try.func8 rfl 83 [(0, .agg (avs (Codec.cells c))), (1, .agg (avs (Home.cells h)))] ?_
 refine AWp.hz [.run 3] 83 [(2, .ptr 0 0), (3, .ptr 1 0)] [(1, .box 28 (avs (Home.cells h))), (0, .box 24 (avs (Codec.cells c)))] 2 ?_
 refine AWp.seq ?_
 refine AWp.join (Z 83 [(2, .ptr 0 0), (3, .ptr 1 0), (24, vb ((decide (((h.clusters.length : Nat) : Int) > 12) || decide (((h.devices.length : Nat) : Int) > 24)) || decide (((c.fields.length : Nat) : Int) > 40)))] [(1, .box 28 (avs (Home.cells h))), (0, .box 24 (avs (Codec.cells c)))] 2) ?_ ?_
 ·
  refine AWp.region ?_
  refine AOps.hzl [.run 2, .len Cluster.cells h.clusters 4, .run 2] 83 [(2, .ptr 0 0), (3, .ptr 1 0), (13, vb (decide (((h.clusters.length : Nat) : Int) > 12)))] [(1, .box 28 (avs (Home.cells h))), (0, .box 24 (avs (Codec.cells c)))] 2 (fun hl => ?_)
  obtain ⟨hn1, -⟩ := hl
  refine AOps.hg [] (decide (((h.clusters.length : Nat) : Int) > 12)) 83 (fun b_ => [(2, .ptr 0 0), (3, .ptr 1 0), (13, vb b_)]) [(1, .box 28 (avs (Home.cells h))), (0, .box 24 (avs (Codec.cells c)))] 2 (fun hg2 => ?_) (fun hg2 => ?_)
  ·
   have hg2' := of_decide_eq_true hg2
   refine AOps.he [.run 11] 83 [(2, .ptr 0 0), (3, .ptr 1 0), (24, vb true)] [(1, .box 28 (avs (Home.cells h))), (0, .box 24 (avs (Codec.cells c)))] 2 ?_
   exact leZ (by rw [hg2]; first | done | kernel_rfl)
  ·
   have hg2' := of_decide_eq_false hg2
   refine AOps.hzl [.run 2, .len Dev.cells h.devices 7, .run 3] 83 [(2, .ptr 0 0), (3, .ptr 1 0), (19, vb (decide (((h.devices.length : Nat) : Int) > 24)))] [(1, .box 28 (avs (Home.cells h))), (0, .box 24 (avs (Codec.cells c)))] 2 (fun hl => ?_)
   obtain ⟨hn3, -⟩ := hl
   refine AOps.hg [] (decide (((h.devices.length : Nat) : Int) > 24)) 83 (fun b_ => [(2, .ptr 0 0), (3, .ptr 1 0), (19, vb b_)]) [(1, .box 28 (avs (Home.cells h))), (0, .box 24 (avs (Codec.cells c)))] 2 (fun hg4 => ?_) (fun hg4 => ?_)
   ·
    have hg4' := of_decide_eq_true hg4
    refine AOps.he [.run 5] 83 [(2, .ptr 0 0), (3, .ptr 1 0), (24, vb true)] [(1, .box 28 (avs (Home.cells h))), (0, .box 24 (avs (Codec.cells c)))] 2 ?_
    exact leZ (by rw [hg2, hg4]; first | done | kernel_rfl)
   ·
    have hg4' := of_decide_eq_false hg4
    refine AOps.hel [.run 2, .len FieldV.cells c.fields 6, .run 2] 83 [(2, .ptr 0 0), (3, .ptr 1 0), (24, vb (decide (((c.fields.length : Nat) : Int) > 40)))] [(1, .box 28 (avs (Home.cells h))), (0, .box 24 (avs (Codec.cells c)))] 2 (fun hl => ?_)
    obtain ⟨hn5, -⟩ := hl
    exact leZ (by rw [hg2, hg4]; first | done | kernel_rfl)
 ·
  refine AWp.cnd (((decide (((h.clusters.length : Nat) : Int) > 12) || decide (((h.devices.length : Nat) : Int) > 24)) || decide (((c.fields.length : Nat) : Int) > 40))) (fun h6 => ?_) (fun h6 => ?_)
  ·
   refine AWp.hz [.run 1] 83 [(4, vb true)] [] 2 ?_
   refine AWp.ret ?_
   exact leafR (r := vb true) (by unfold largeM; (try rw [h6]); first | done | kernel_rfl)
  ·
   have h6l := or_fl h6
   have h6ll := or_fl h6l
   have h6ll' := of_decide_eq_false h6ll
   have h6lr := or_fr h6l
   have h6lr' := of_decide_eq_false h6lr
   have h6r := or_fr h6
   have h6r' := of_decide_eq_false h6r
   refine AWp.skip ?_
   refine AWp.seq ?_
   refine AWp.hz [.run 1] 83 [(2, .ptr 0 0), (3, .ptr 1 0), (5, vi 0)] [(1, .box 28 (avs (Home.cells h))), (0, .box 24 (avs (Codec.cells c)))] 2 ?_
   refine AWp.block ?_
   refine AWp.loop (ι := Nat) (fun k1_ => Z 83 [(2, .ptr 0 0), (3, .ptr 1 0), (5, vi ((k1_ : Nat) : Int))] [(1, .box 28 (avs (Home.cells h))), (0, .box 24 (avs (Codec.cells c)))] 2) (fun k1_ => k1_ ≤ h.clusters.length ∧ largeM_L1 c h = scanN (largeM_B1 c h) k1_ (h.clusters.length - k1_)) (fun k1_ => h.clusters.length - k1_) 0 leZ ⟨Nat.zero_le _, rfl⟩ ?_
   intro k1_ ⟨hk1_, hs1_⟩
   refine AWp.seq ?_
   refine AWp.hzl [.run 3, .len Cluster.cells h.clusters 4, .run 1] 83 [(2, .ptr 0 0), (3, .ptr 1 0), (5, vi ((k1_ : Nat) : Int)), (29, vb (decide (((k1_ : Nat) : Int) < ((h.clusters.length : Nat) : Int))))] [(1, .box 28 (avs (Home.cells h))), (0, .box 24 (avs (Codec.cells c)))] 2 (fun hl => ?_)
   obtain ⟨hn7, -⟩ := hl
   refine AWp.cnd (decide (((k1_ : Nat) : Int) < ((h.clusters.length : Nat) : Int))) (fun h8 => ?_) (fun h8 => ?_)
   ·
    have h8' := of_decide_eq_true h8
    refine AWp.skip ?_
    refine AWp.seq ?_
    refine AWp.block ?_
    obtain ⟨e1_, he1_⟩ := getEx (l := h.clusters) (j := k1_) (by omega)
    refine AWp.hz [.run 3, .idx Cluster.cells h.clusters 4 k1_ e1_ he1_, .run 3] 83 [(2, .ptr 0 0), (3, .ptr 1 0), (5, vi ((k1_ : Nat) : Int)), (6, .ptr 2 0)] [(2, .box 58 (avs (Cluster.cells e1_))), (1, .box 28 (avs (Home.cells h))), (0, .box 24 (avs (Codec.cells c)))] 3 ?_
    refine AWp.join (Z 83 [(2, .ptr 0 0), (3, .ptr 1 0), (5, vi ((k1_ : Nat) : Int)), (52, vb ((decide (((e1_.attrs.length : Nat) : Int) > 15) || decide (((e1_.commands.length : Nat) : Int) > 15)) || decide (((e1_.events.length : Nat) : Int) > 15)))] [(1, .box 28 (avs (Home.cells h))), (0, .box 24 (avs (Codec.cells c)))] 3) ?_ ?_
    ·
     refine AWp.region ?_
     refine AOps.hzl [.run 2, .len Attr.cells e1_.attrs 7, .run 2] 83 [(2, .ptr 0 0), (3, .ptr 1 0), (5, vi ((k1_ : Nat) : Int)), (6, .ptr 2 0), (41, vb (decide (((e1_.attrs.length : Nat) : Int) > 15)))] [(2, .box 58 (avs (Cluster.cells e1_))), (1, .box 28 (avs (Home.cells h))), (0, .box 24 (avs (Codec.cells c)))] 3 (fun hl => ?_)
     obtain ⟨hn9, -⟩ := hl
     refine AOps.hg [] (decide (((e1_.attrs.length : Nat) : Int) > 15)) 83 (fun b_ => [(2, .ptr 0 0), (3, .ptr 1 0), (5, vi ((k1_ : Nat) : Int)), (6, .ptr 2 0), (41, vb b_)]) [(2, .box 58 (avs (Cluster.cells e1_))), (1, .box 28 (avs (Home.cells h))), (0, .box 24 (avs (Codec.cells c)))] 3 (fun hg10 => ?_) (fun hg10 => ?_)
     ·
      have hg10' := of_decide_eq_true hg10
      refine AOps.he [.run 11] 83 [(2, .ptr 0 0), (3, .ptr 1 0), (5, vi ((k1_ : Nat) : Int)), (52, vb true)] [(1, .box 28 (avs (Home.cells h))), (0, .box 24 (avs (Codec.cells c)))] 3 ?_
      exact leZ (by rw [hg10]; first | done | kernel_rfl)
     ·
      have hg10' := of_decide_eq_false hg10
      refine AOps.hzl [.run 2, .len Command.cells e1_.commands 9, .run 3] 83 [(2, .ptr 0 0), (3, .ptr 1 0), (5, vi ((k1_ : Nat) : Int)), (6, .ptr 2 0), (47, vb (decide (((e1_.commands.length : Nat) : Int) > 15)))] [(2, .box 58 (avs (Cluster.cells e1_))), (1, .box 28 (avs (Home.cells h))), (0, .box 24 (avs (Codec.cells c)))] 3 (fun hl => ?_)
      obtain ⟨hn11, -⟩ := hl
      refine AOps.hg [] (decide (((e1_.commands.length : Nat) : Int) > 15)) 83 (fun b_ => [(2, .ptr 0 0), (3, .ptr 1 0), (5, vi ((k1_ : Nat) : Int)), (6, .ptr 2 0), (47, vb b_)]) [(2, .box 58 (avs (Cluster.cells e1_))), (1, .box 28 (avs (Home.cells h))), (0, .box 24 (avs (Codec.cells c)))] 3 (fun hg12 => ?_) (fun hg12 => ?_)
      ·
       have hg12' := of_decide_eq_true hg12
       refine AOps.he [.run 5] 83 [(2, .ptr 0 0), (3, .ptr 1 0), (5, vi ((k1_ : Nat) : Int)), (52, vb true)] [(1, .box 28 (avs (Home.cells h))), (0, .box 24 (avs (Codec.cells c)))] 3 ?_
       exact leZ (by rw [hg10, hg12]; first | done | kernel_rfl)
      ·
       have hg12' := of_decide_eq_false hg12
       refine AOps.hel [.run 2, .len strC e1_.events 1, .run 2] 83 [(2, .ptr 0 0), (3, .ptr 1 0), (5, vi ((k1_ : Nat) : Int)), (52, vb (decide (((e1_.events.length : Nat) : Int) > 15)))] [(1, .box 28 (avs (Home.cells h))), (0, .box 24 (avs (Codec.cells c)))] 3 (fun hl => ?_)
       obtain ⟨hn13, -⟩ := hl
       exact leZ (by rw [hg10, hg12]; first | done | kernel_rfl)
    ·
     refine AWp.cnd (((decide (((e1_.attrs.length : Nat) : Int) > 15) || decide (((e1_.commands.length : Nat) : Int) > 15)) || decide (((e1_.events.length : Nat) : Int) > 15))) (fun h14 => ?_) (fun h14 => ?_)
     ·
      refine AWp.hz [.run 1] 83 [(4, vb true)] [] 3 ?_
      refine AWp.ret ?_
      have hL1_ : largeM_L1 c h = some true := scanN_some hs1_ (by omega) (by unfold largeM_B1; (try simp only [he1_]); (try rw [h8]); (try rw [h14]); first | done | kernel_rfl)
      exact leafR (r := vb true) (by unfold largeM; (try rw [h6]); (try rw [hL1_]); first | done | kernel_rfl)
     ·
      have h14l := or_fl h14
      have h14ll := or_fl h14l
      have h14ll' := of_decide_eq_false h14ll
      have h14lr := or_fr h14l
      have h14lr' := of_decide_eq_false h14lr
      have h14r := or_fr h14
      have h14r' := of_decide_eq_false h14r
      refine AWp.skip ?_
      refine AWp.he [.run 1, .cast (vi (IntKind.i64.wrap (((k1_ : Nat) : Int) + 1))) (vi ((k1_ + 1 : Nat) : Int)) (congrArg vi (wrap_nat (by omega))), .run 1] 83 [(2, .ptr 0 0), (3, .ptr 1 0), (5, vi ((k1_ + 1 : Nat) : Int))] [(1, .box 28 (avs (Home.cells h))), (0, .box 24 (avs (Codec.cells c)))] 3 ?_
      exact ⟨k1_ + 1, ⟨by omega, scanN_none hs1_ (by omega) (by unfold largeM_B1; (try simp only [he1_]); (try rw [h8]); (try rw [h14]); first | done | kernel_rfl)⟩, by omega, leG⟩
   ·
    have h8' := of_decide_eq_false h8
    refine AWp.exit ?_
    have hL1_ : largeM_L1 c h = none := scanN_end hs1_ (by omega)
    refine AWp.seq ?_
    refine AWp.hz [.run 1] 83 [(2, .ptr 0 0), (3, .ptr 1 0), (7, vi 0)] [(1, .box 28 (avs (Home.cells h))), (0, .box 24 (avs (Codec.cells c)))] 2 ?_
    refine AWp.block ?_
    refine AWp.loop (ι := Nat) (fun k2_ => Z 83 [(2, .ptr 0 0), (3, .ptr 1 0), (7, vi ((k2_ : Nat) : Int))] [(1, .box 28 (avs (Home.cells h))), (0, .box 24 (avs (Codec.cells c)))] 2) (fun k2_ => k2_ ≤ h.devices.length ∧ largeM_L2 c h = scanN (largeM_B2 c h) k2_ (h.devices.length - k2_)) (fun k2_ => h.devices.length - k2_) 0 leZ ⟨Nat.zero_le _, rfl⟩ ?_
    intro k2_ ⟨hk2_, hs2_⟩
    refine AWp.seq ?_
    refine AWp.hzl [.run 3, .len Dev.cells h.devices 7, .run 1] 83 [(2, .ptr 0 0), (3, .ptr 1 0), (7, vi ((k2_ : Nat) : Int)), (57, vb (decide (((k2_ : Nat) : Int) < ((h.devices.length : Nat) : Int))))] [(1, .box 28 (avs (Home.cells h))), (0, .box 24 (avs (Codec.cells c)))] 2 (fun hl => ?_)
    obtain ⟨hn15, -⟩ := hl
    refine AWp.cnd (decide (((k2_ : Nat) : Int) < ((h.devices.length : Nat) : Int))) (fun h16 => ?_) (fun h16 => ?_)
    ·
     have h16' := of_decide_eq_true h16
     refine AWp.skip ?_
     refine AWp.seq ?_
     refine AWp.block ?_
     obtain ⟨e2_, he2_⟩ := getEx (l := h.devices) (j := k2_) (by omega)
     refine AWp.hzl [.run 3, .idx Dev.cells h.devices 7 k2_ e2_ he2_, .run 2, .len strC e2_.clusters 1, .run 1] 83 [(2, .ptr 0 0), (3, .ptr 1 0), (7, vi ((k2_ : Nat) : Int)), (67, vb (decide (((e2_.clusters.length : Nat) : Int) > 15)))] [(1, .box 28 (avs (Home.cells h))), (0, .box 24 (avs (Codec.cells c)))] 2 (fun hl => ?_)
     obtain ⟨hn17, -⟩ := hl
     refine AWp.cnd (decide (((e2_.clusters.length : Nat) : Int) > 15)) (fun h18 => ?_) (fun h18 => ?_)
     ·
      have h18' := of_decide_eq_true h18
      refine AWp.hz [.run 1] 83 [(4, vb true)] [] 2 ?_
      refine AWp.ret ?_
      have hL2_ : largeM_L2 c h = some true := scanN_some hs2_ (by omega) (by unfold largeM_B2; (try simp only [he2_]); (try rw [h16]); (try rw [h18]); first | done | kernel_rfl)
      exact leafR (r := vb true) (by unfold largeM; (try rw [h6]); (try rw [hL1_]); (try rw [hL2_]); first | done | kernel_rfl)
     ·
      have h18' := of_decide_eq_false h18
      refine AWp.skip ?_
      refine AWp.he [.run 1, .cast (vi (IntKind.i64.wrap (((k2_ : Nat) : Int) + 1))) (vi ((k2_ + 1 : Nat) : Int)) (congrArg vi (wrap_nat (by omega))), .run 1] 83 [(2, .ptr 0 0), (3, .ptr 1 0), (7, vi ((k2_ + 1 : Nat) : Int))] [(1, .box 28 (avs (Home.cells h))), (0, .box 24 (avs (Codec.cells c)))] 2 ?_
      exact ⟨k2_ + 1, ⟨by omega, scanN_none hs2_ (by omega) (by unfold largeM_B2; (try simp only [he2_]); (try rw [h16]); (try rw [h18]); first | done | kernel_rfl)⟩, by omega, leG⟩
    ·
     have h16' := of_decide_eq_false h16
     refine AWp.exit ?_
     have hL2_ : largeM_L2 c h = none := scanN_end hs2_ (by omega)
     refine AWp.seq ?_
     refine AWp.hz [.run 1] 83 [(2, .ptr 0 0), (8, vi 0)] [(0, .box 24 (avs (Codec.cells c)))] 2 ?_
     refine AWp.block ?_
     refine AWp.loop (ι := Nat) (fun k3_ => Z 83 [(2, .ptr 0 0), (8, vi ((k3_ : Nat) : Int))] [(0, .box 24 (avs (Codec.cells c)))] 2) (fun k3_ => k3_ ≤ c.fields.length ∧ largeM_L3 c h = scanN (largeM_B3 c h) k3_ (c.fields.length - k3_)) (fun k3_ => c.fields.length - k3_) 0 leZ ⟨Nat.zero_le _, rfl⟩ ?_
     intro k3_ ⟨hk3_, hs3_⟩
     refine AWp.seq ?_
     refine AWp.hzl [.run 3, .len FieldV.cells c.fields 6, .run 1] 83 [(2, .ptr 0 0), (8, vi ((k3_ : Nat) : Int)), (72, vb (decide (((k3_ : Nat) : Int) < ((c.fields.length : Nat) : Int))))] [(0, .box 24 (avs (Codec.cells c)))] 2 (fun hl => ?_)
     obtain ⟨hn19, -⟩ := hl
     refine AWp.cnd (decide (((k3_ : Nat) : Int) < ((c.fields.length : Nat) : Int))) (fun h20 => ?_) (fun h20 => ?_)
     ·
      have h20' := of_decide_eq_true h20
      refine AWp.skip ?_
      refine AWp.seq ?_
      refine AWp.block ?_
      obtain ⟨e3_, he3_⟩ := getEx (l := c.fields) (j := k3_) (by omega)
      refine AWp.hzl [.run 3, .idx FieldV.cells c.fields 6 k3_ e3_ he3_, .run 2, .len intC e3_.map 1, .run 1] 83 [(2, .ptr 0 0), (8, vi ((k3_ : Nat) : Int)), (82, vb (decide (((e3_.map.length : Nat) : Int) > 70)))] [(0, .box 24 (avs (Codec.cells c)))] 2 (fun hl => ?_)
      obtain ⟨hn21, -⟩ := hl
      refine AWp.cnd (decide (((e3_.map.length : Nat) : Int) > 70)) (fun h22 => ?_) (fun h22 => ?_)
      ·
       have h22' := of_decide_eq_true h22
       refine AWp.hz [.run 1] 83 [(4, vb true)] [] 2 ?_
       refine AWp.ret ?_
       have hL3_ : largeM_L3 c h = some true := scanN_some hs3_ (by omega) (by unfold largeM_B3; (try simp only [he3_]); (try rw [h20]); (try rw [h22]); first | done | kernel_rfl)
       exact leafR (r := vb true) (by unfold largeM; (try rw [h6]); (try rw [hL1_]); (try rw [hL2_]); (try rw [hL3_]); first | done | kernel_rfl)
      ·
       have h22' := of_decide_eq_false h22
       refine AWp.skip ?_
       refine AWp.he [.run 1, .cast (vi (IntKind.i64.wrap (((k3_ : Nat) : Int) + 1))) (vi ((k3_ + 1 : Nat) : Int)) (congrArg vi (wrap_nat (by omega))), .run 1] 83 [(2, .ptr 0 0), (8, vi ((k3_ + 1 : Nat) : Int))] [(0, .box 24 (avs (Codec.cells c)))] 2 ?_
       exact ⟨k3_ + 1, ⟨by omega, scanN_none hs3_ (by omega) (by unfold largeM_B3; (try simp only [he3_]); (try rw [h20]); (try rw [h22]); first | done | kernel_rfl)⟩, by omega, leG⟩
     ·
      have h20' := of_decide_eq_false h20
      refine AWp.exit ?_
      have hL3_ : largeM_L3 c h = none := scanN_end hs3_ (by omega)
      refine AWp.hz [.run 1] 83 [(4, vb false)] [] 2 ?_
      refine AWp.ret ?_
      exact leafR (r := vb false) (by unfold largeM; (try rw [h6]); (try rw [hL1_]); (try rw [hL2_]); (try rw [hL3_]); first | done | kernel_rfl)
theorem large_fields {c : Codec} {h : Home} (hh : largeM c h = false) : c.fields.length ≤ 1000 := by
  unfold largeM at hh
  simp only [Bool.or_eq_false_iff, decide_eq_false_iff_not] at hh
  omega
theorem foldPush_size : ∀ (l : List Int) (s : ByteArray), (l.foldl (fun r n => r.push (UInt8.ofNat n.toNat)) s).size = s.size + l.length
  | [], s => rfl
  | n :: l, s => by
    rw [List.foldl_cons, foldPush_size l, ByteArray.size_push, List.length_cons]
    omega
theorem bytesOf_size (l : List Int) : (bytesOf l).size = l.length := by
  unfold bytesOf
  rw [foldPush_size]
  show 0 + l.length = l.length
  omega
theorem loopS_le {R A : Type} {b : Nat → A → Step R A} (I : Nat → A → Prop) (hn : ∀ k a a', I k a → b k a = .nxt a' → I (k + 1) a') (hb : ∀ k a a', b k a ≠ .brk a') : ∀ {m k : Nat} {a a' : A}, I k a → loopS b k m a = .inr a' → I (k + m) a'
  | 0, k, a, a', h, hl => by
    simp only [loopS, Sum.inr.injEq] at hl
    subst hl
    exact h
  | m + 1, k, a, a', h, hl => by
    unfold loopS at hl
    split at hl
    · cases hl
    · rename_i hk
      exact absurd hk (hb _ _ _)
    · rename_i a2 hk
      have := loopS_le I hn hb (m := m) (hn k a a2 h hk) hl
      rwa [show k + 1 + m = k + (m + 1) from by omega] at this
theorem encodeM_size (c : Codec) (h : Home) (l : List ItemV) : (encodeM c h l).1.size ≤ 3 * l.length := by
  unfold encodeM
  simp only [cond_eq_ite]
  split
  · exact Nat.zero_le _
  · split
    · rename_i r hr
      obtain ⟨j, a, hj⟩ := loopS_inl hr
      unfold encodeM_B1 at hj
      simp only [cond_eq_ite] at hj
      repeat' split at hj
      all_goals first
        | (cases hj; done)
        | (cases hj; exact Nat.zero_le _)
    · rename_i a hr
      have := loopS_le (b := encodeM_B1 c h l) (fun k a => a.length ≤ 3 * k) (fun k a a' ha hb => by
        unfold encodeM_B1 at hb
        simp only [cond_eq_ite] at hb
        repeat' split at hb
        all_goals first
          | (cases hb; done)
          | (cases hb; simp only [List.length_append, List.length_cons, List.length_nil]; omega)
          | (cases hb; omega)) (fun k a a' hb => by
        unfold encodeM_B1 at hb
        simp only [cond_eq_ite] at hb
        repeat' split at hb
        all_goals cases hb) (k := 0) (a := []) (by simp) hr
      rw [bytesOf_size]
      omega
def lChecksM (c : Codec) (h : Home) : Bool :=
  (largeM c h || (venCheckM c h == rvenCheckM c h))
theorem lChecksM_ok (c : Codec) (h : Home) :
 ACalls Try.prog G_ 3 [.agg (avs (Codec.cells c)), .agg (avs (Home.cells h))] [] 0 (fun r τ => r = vb (lChecksM c h) ∧ τ = []) := by
 refine ACalls.body Try.func3 rfl 19 [(0, .agg (avs (Codec.cells c))), (1, .agg (avs (Home.cells h)))] ?_
 refine AWp.hz [.run 3] 19 [(2, .ptr 0 0), (3, .ptr 1 0)] [(1, .box 28 (avs (Home.cells h))), (0, .box 24 (avs (Codec.cells c)))] 2 ?_
 refine AWp.seq ?_
 refine AWp.hz [.run 2, .call 8 [.agg (avs (Codec.cells c)), .agg (avs (Home.cells h))] (vb (largeM c h)) [] 0 (largeM_ok c h)] 19 [(2, .ptr 0 0), (3, .ptr 1 0), (7, vb (largeM c h))] [(1, .box 28 (avs (Home.cells h))), (0, .box 24 (avs (Codec.cells c)))] 2 ?_
 refine AWp.cnd (largeM c h) (fun h1 => ?_) (fun h1 => ?_)
 ·
  refine AWp.hz [.call 9 [] (vb true) [] 0 (awake_ok), .run 1] 19 [(4, vb true)] [] 2 ?_
  refine AWp.ret ?_
  exact leafR (r := vb true) (by unfold lChecksM; (try rw [h1]); first | done | kernel_rfl)
 ·
  refine AWp.skip ?_
  refine AWp.split ((venCheckM c h == rvenCheckM c h)) (fun h2 => ?_) (fun h2 => ?_)
  ·
   refine AWp.dz [.agg (avs (Codec.cells c)), .agg (avs (Home.cells h)), vi (venCheckM c h), .agg (avs (Codec.cells c)), .agg (avs (Home.cells h)), vi (rvenCheckM c h), vb true, vb true, vb true, vb true, vb true] 19 [(4, vb true)] [] 2 ?_ ?_
   ·
    refine DSteps.cons (DStep.va) ?_
    refine DSteps.cons (DStep.va) ?_
    refine DSteps.cons (DStep.call rfl (by kernel_rfl) (by kernel_rfl) (by kernel_rfl) (args := [.agg (avs (Codec.cells c)), .agg (avs (Home.cells h))]) (by kernel_rfl) (by kernel_rfl) (venCheckM_ok c h) (by kernel_rfl) (Nat.le_of_ble_eq_true (by kernel_rfl))) ?_
    refine DSteps.cons (DStep.va) ?_
    refine DSteps.cons (DStep.va) ?_
    refine DSteps.cons (DStep.call rfl (by kernel_rfl) (by kernel_rfl) (by kernel_rfl) (args := [.agg (avs (Codec.cells c)), .agg (avs (Home.cells h))]) (by kernel_rfl) (by kernel_rfl) (rvenCheckM_ok c h) (by kernel_rfl) (Nat.le_of_ble_eq_true (by kernel_rfl))) ?_
    refine DSteps.cons ((DStep.val (v := vb (venCheckM c h == rvenCheckM c h)) (by kernel_rfl) (by kernel_rfl)).cast (congrArg vb h2)) ?_
    refine DSteps.cons (DStep.va) ?_
    refine DSteps.cons (DStep.call rfl (by kernel_rfl) (by kernel_rfl) (by kernel_rfl) (args := []) (by kernel_rfl) (by kernel_rfl) (awake_ok) (by kernel_rfl) (Nat.le_of_ble_eq_true (by kernel_rfl))) ?_
    refine DSteps.cons (DStep.va) ?_
    refine DSteps.cons (DStep.va) ?_
    exact DSteps.nl
   refine AWp.ret ?_
   exact leafR (r := vb true) (by unfold lChecksM; (try rw [h1]); (try rw [h2]); first | done | kernel_rfl)
  ·
   refine AWp.dz [.agg (avs (Codec.cells c)), .agg (avs (Home.cells h)), vi (venCheckM c h), .agg (avs (Codec.cells c)), .agg (avs (Home.cells h)), vi (rvenCheckM c h), vb false, vb false, .tuple [], vb false, vb false] 19 [(4, vb false)] [] 2 ?_ ?_
   ·
    refine DSteps.cons (DStep.va) ?_
    refine DSteps.cons (DStep.va) ?_
    refine DSteps.cons (DStep.call rfl (by kernel_rfl) (by kernel_rfl) (by kernel_rfl) (args := [.agg (avs (Codec.cells c)), .agg (avs (Home.cells h))]) (by kernel_rfl) (by kernel_rfl) (venCheckM_ok c h) (by kernel_rfl) (Nat.le_of_ble_eq_true (by kernel_rfl))) ?_
    refine DSteps.cons (DStep.va) ?_
    refine DSteps.cons (DStep.va) ?_
    refine DSteps.cons (DStep.call rfl (by kernel_rfl) (by kernel_rfl) (by kernel_rfl) (args := [.agg (avs (Codec.cells c)), .agg (avs (Home.cells h))]) (by kernel_rfl) (by kernel_rfl) (rvenCheckM_ok c h) (by kernel_rfl) (Nat.le_of_ble_eq_true (by kernel_rfl))) ?_
    refine DSteps.cons ((DStep.val (v := vb (venCheckM c h == rvenCheckM c h)) (by kernel_rfl) (by kernel_rfl)).cast (congrArg vb h2)) ?_
    refine DSteps.cons (DStep.va) ?_
    refine DSteps.cons (DStep.skip (by kernel_rfl)) ?_
    refine DSteps.cons (DStep.va) ?_
    refine DSteps.cons (DStep.va) ?_
    exact DSteps.nl
   refine AWp.ret ?_
   exact leafR (r := vb false) (by unfold lChecksM; (try rw [h1]); (try rw [h2]); first | done | kernel_rfl)
def lBackM_B1 (c : Codec) (h : Home) (l : List ItemV) (k1_ : Nat) : Option Bool :=
  (match (l)[k1_]? with | some e1_ => (match (l)[0]? with | some e2_ => (bif (e1_.key.dev != e2_.key.dev) then some true else none) | none => none) | none => none)
def lBackM_L1 (c : Codec) (h : Home) (l : List ItemV) : Option Bool := scanN (lBackM_B1 c h l) 0 l.length
def lBackM_B2 (c : Codec) (h : Home) (l : List ItemV) (e2_ : ItemV) (k2_ : Nat) : Option Bool :=
  (match ((decodeM c h e2_.key.dev ((encodeM c h l).1)).1)[k2_]? with | some e3_ => (match (l)[k2_]? with | some e4_ => (bif !(((e3_.key.dev == e4_.key.dev) && (beqS e3_.key.cluster e4_.key.cluster && (beqS e3_.key.attr e4_.key.attr && true))) && (((e3_.value.kind == e4_.value.kind) && ((e3_.value.n == e4_.value.n) && (beqS e3_.value.s e4_.value.s && true))) && ((e3_.version == 0) && true))) then some false else none) | none => none) | none => none)
def lBackM_L2 (c : Codec) (h : Home) (l : List ItemV) (e2_ : ItemV) : Option Bool := scanN (lBackM_B2 c h l e2_) 0 l.length
def lBackM (c : Codec) (h : Home) (l : List ItemV) : Bool :=
  (((largeM c h || decide (((l.length : Nat) : Int) > 10)) || (((l.length : Nat) : Int) == 0)) || (lBackM_L1 c h l).getD (bif (((encodeM c h l).2) != 0) then beqS ((encodeM c h l).1) (⟨#[]⟩) else (match (l)[0]? with | some e2_ => (bif (((((decodeM c h e2_.key.dev ((encodeM c h l).1)).2) != 0) || (((((decodeM c h e2_.key.dev ((encodeM c h l).1)).1).length : Nat) : Int) != ((l.length : Nat) : Int))) || (((((encodeM c h l).1).size : Nat) : Int) != IntKind.i64.wrap (3 * ((l.length : Nat) : Int)))) then false else (lBackM_L2 c h l e2_).getD true) | none => false)))
theorem lBackM_ok (c : Codec) (h : Home) (l : List ItemV) :
 ACalls Try.prog G_ 6 [.agg (avs (Codec.cells c)), .agg (avs (Home.cells h)), .rv (.sl 7 (l.map ItemV.cells))] [] 0 (fun r τ => r = vb (lBackM c h l) ∧ τ = []) := by
 refine ACalls.body Try.func6 rfl 112 [(0, .agg (avs (Codec.cells c))), (1, .agg (avs (Home.cells h))), (2, .rv (.sl 7 (l.map ItemV.cells)))] ?_
 refine AWp.hz [.run 3] 112 [(2, .rv (.sl 7 (l.map ItemV.cells))), (3, .ptr 0 0), (4, .ptr 1 0)] [(1, .box 28 (avs (Home.cells h))), (0, .box 24 (avs (Codec.cells c)))] 2 ?_
 refine AWp.seq ?_
 refine AWp.join (Z 112 [(2, .rv (.sl 7 (l.map ItemV.cells))), (3, .ptr 0 0), (4, .ptr 1 0), (25, vb ((largeM c h || decide (((l.length : Nat) : Int) > 10)) || (((l.length : Nat) : Int) == 0)))] [(1, .box 28 (avs (Home.cells h))), (0, .box 24 (avs (Codec.cells c)))] 2) ?_ ?_
 ·
  refine AWp.region ?_
  refine AOps.hg [.run 2, .call 8 [.agg (avs (Codec.cells c)), .agg (avs (Home.cells h))] (vb (largeM c h)) [] 0 (largeM_ok c h), .run 1] (largeM c h) 112 (fun b_ => [(2, .rv (.sl 7 (l.map ItemV.cells))), (3, .ptr 0 0), (4, .ptr 1 0), (16, vb b_)]) [(1, .box 28 (avs (Home.cells h))), (0, .box 24 (avs (Codec.cells c)))] 2 (fun hg1 => ?_) (fun hg1 => ?_)
  ·
   refine AOps.he [.run 9] 112 [(2, .rv (.sl 7 (l.map ItemV.cells))), (3, .ptr 0 0), (4, .ptr 1 0), (25, vb true)] [(1, .box 28 (avs (Home.cells h))), (0, .box 24 (avs (Codec.cells c)))] 2 ?_
   exact leZ (by rw [hg1]; first | done | kernel_rfl)
  ·
   refine AOps.hzl [.run 1, .len ItemV.cells l 7, .run 3] 112 [(2, .rv (.sl 7 (l.map ItemV.cells))), (3, .ptr 0 0), (4, .ptr 1 0), (21, vb (decide (((l.length : Nat) : Int) > 10)))] [(1, .box 28 (avs (Home.cells h))), (0, .box 24 (avs (Codec.cells c)))] 2 (fun hl => ?_)
   obtain ⟨hn2, -⟩ := hl
   refine AOps.hg [] (decide (((l.length : Nat) : Int) > 10)) 112 (fun b_ => [(2, .rv (.sl 7 (l.map ItemV.cells))), (3, .ptr 0 0), (4, .ptr 1 0), (21, vb b_)]) [(1, .box 28 (avs (Home.cells h))), (0, .box 24 (avs (Codec.cells c)))] 2 (fun hg3 => ?_) (fun hg3 => ?_)
   ·
    have hg3' := of_decide_eq_true hg3
    refine AOps.he [.run 4] 112 [(2, .rv (.sl 7 (l.map ItemV.cells))), (3, .ptr 0 0), (4, .ptr 1 0), (25, vb true)] [(1, .box 28 (avs (Home.cells h))), (0, .box 24 (avs (Codec.cells c)))] 2 ?_
    exact leZ (by rw [hg1, hg3]; first | done | kernel_rfl)
   ·
    have hg3' := of_decide_eq_false hg3
    refine AOps.hel [.run 1, .len ItemV.cells l 7, .run 2] 112 [(2, .rv (.sl 7 (l.map ItemV.cells))), (3, .ptr 0 0), (4, .ptr 1 0), (25, vb (((l.length : Nat) : Int) == 0))] [(1, .box 28 (avs (Home.cells h))), (0, .box 24 (avs (Codec.cells c)))] 2 (fun hl => ?_)
    obtain ⟨hn4, -⟩ := hl
    exact leZ (by rw [hg1, hg3]; first | done | kernel_rfl)
 ·
  refine AWp.cnd (((largeM c h || decide (((l.length : Nat) : Int) > 10)) || (((l.length : Nat) : Int) == 0))) (fun h5 => ?_) (fun h5 => ?_)
  ·
   refine AWp.hz [.call 9 [] (vb true) [] 0 (awake_ok), .run 1] 112 [(6, vb true)] [] 2 ?_
   refine AWp.ret ?_
   exact leafR (r := vb true) (by unfold lBackM; (try rw [h5]); first | done | kernel_rfl)
  ·
   have h5l := or_fl h5
   have h5ll := or_fl h5l
   have h5lr := or_fr h5l
   have h5lr' := of_decide_eq_false h5lr
   have h5r := or_fr h5
   have h5r' := beq_f h5r
   refine AWp.skip ?_
   refine AWp.seq ?_
   refine AWp.hz [.run 1] 112 [(2, .rv (.sl 7 (l.map ItemV.cells))), (3, .ptr 0 0), (4, .ptr 1 0), (7, vi 0)] [(1, .box 28 (avs (Home.cells h))), (0, .box 24 (avs (Codec.cells c)))] 2 ?_
   refine AWp.block ?_
   refine AWp.loop (ι := Nat) (fun k1_ => Z 112 [(2, .rv (.sl 7 (l.map ItemV.cells))), (3, .ptr 0 0), (4, .ptr 1 0), (7, vi ((k1_ : Nat) : Int))] [(1, .box 28 (avs (Home.cells h))), (0, .box 24 (avs (Codec.cells c)))] 2) (fun k1_ => k1_ ≤ l.length ∧ lBackM_L1 c h l = scanN (lBackM_B1 c h l) k1_ (l.length - k1_)) (fun k1_ => l.length - k1_) 0 leZ ⟨Nat.zero_le _, rfl⟩ ?_
   intro k1_ ⟨hk1_, hs1_⟩
   refine AWp.seq ?_
   refine AWp.hzl [.run 2, .len ItemV.cells l 7, .run 1] 112 [(2, .rv (.sl 7 (l.map ItemV.cells))), (3, .ptr 0 0), (4, .ptr 1 0), (7, vi ((k1_ : Nat) : Int)), (30, vb (decide (((k1_ : Nat) : Int) < ((l.length : Nat) : Int))))] [(1, .box 28 (avs (Home.cells h))), (0, .box 24 (avs (Codec.cells c)))] 2 (fun hl => ?_)
   obtain ⟨hn6, -⟩ := hl
   refine AWp.cnd (decide (((k1_ : Nat) : Int) < ((l.length : Nat) : Int))) (fun h7 => ?_) (fun h7 => ?_)
   ·
    have h7' := of_decide_eq_true h7
    refine AWp.skip ?_
    refine AWp.seq ?_
    refine AWp.block ?_
    obtain ⟨e1_, he1_⟩ := getEx (l := l) (j := k1_) (by omega)
    obtain ⟨e2_, he2_⟩ := getEx (l := l) (j := 0) (by omega)
    refine AWp.dz [.rv (.sl 7 (l.map ItemV.cells)), vi ((k1_ : Nat) : Int), .rv (.ptr (ItemV.cells e1_)), .rv (.ptr (ItemV.cells e1_)), .rv (.ptr (ItemV.cells e1_)), vi e1_.key.dev, .rv (.sl 7 (l.map ItemV.cells)), .rv (.ptr (ItemV.cells e2_)), .rv (.ptr (ItemV.cells e2_)), .rv (.ptr (ItemV.cells e2_)), vi e2_.key.dev, vb (e1_.key.dev != e2_.key.dev)] 112 [(2, .rv (.sl 7 (l.map ItemV.cells))), (3, .ptr 0 0), (4, .ptr 1 0), (7, vi ((k1_ : Nat) : Int)), (44, vb (e1_.key.dev != e2_.key.dev))] [(1, .box 28 (avs (Home.cells h))), (0, .box 24 (avs (Codec.cells c)))] 2 ?_ ?_
    ·
     refine DSteps.cons (DStep.va) ?_
     refine DSteps.cons (DStep.va) ?_
     refine DSteps.cons (DStep.vs (by kernel_rfl) (R_indexAddrM ItemV.cells l 7 k1_ rfl (by kernel_rfl) (by kernel_rfl) (by kernel_rfl) he1_)) ?_
     refine DSteps.cons (DStep.va) ?_
     refine DSteps.cons (DStep.va) ?_
     refine DSteps.cons (DStep.va) ?_
     refine DSteps.cons (DStep.va) ?_
     refine DSteps.cons (DStep.vs (by kernel_rfl) (R_indexAddrM ItemV.cells l 7 0 rfl (by kernel_rfl) (by kernel_rfl) (by kernel_rfl) he2_)) ?_
     refine DSteps.cons (DStep.va) ?_
     refine DSteps.cons (DStep.va) ?_
     refine DSteps.cons (DStep.va) ?_
     refine DSteps.cons (DStep.va) ?_
     exact DSteps.nl
    refine AWp.cnd ((e1_.key.dev != e2_.key.dev)) (fun h8 => ?_) (fun h8 => ?_)
    ·
     refine AWp.hz [.call 9 [] (vb true) [] 0 (awake_ok), .run 1] 112 [(6, vb true)] [] 2 ?_
     refine AWp.ret ?_
     have hL1_ : lBackM_L1 c h l = some true := scanN_some hs1_ (by omega) (by unfold lBackM_B1; (try simp only [he1_]); (try simp only [he2_]); (try rw [h7]); (try rw [h8]); first | done | kernel_rfl)
     exact leafR (r := vb true) (by unfold lBackM; (try simp only [he2_]); (try rw [h5]); (try rw [hL1_]); first | done | kernel_rfl)
    ·
     refine AWp.skip ?_
     refine AWp.he [.run 1, .cast (vi (IntKind.i64.wrap (((k1_ : Nat) : Int) + 1))) (vi ((k1_ + 1 : Nat) : Int)) (congrArg vi (wrap_nat (by omega))), .run 1] 112 [(2, .rv (.sl 7 (l.map ItemV.cells))), (3, .ptr 0 0), (4, .ptr 1 0), (7, vi ((k1_ + 1 : Nat) : Int))] [(1, .box 28 (avs (Home.cells h))), (0, .box 24 (avs (Codec.cells c)))] 2 ?_
     exact ⟨k1_ + 1, ⟨by omega, scanN_none hs1_ (by omega) (by unfold lBackM_B1; (try simp only [he1_]); (try simp only [he2_]); (try rw [h7]); (try rw [h8]); first | done | kernel_rfl)⟩, by omega, leG⟩
   ·
    have h7' := of_decide_eq_false h7
    refine AWp.exit ?_
    have hL1_ : lBackM_L1 c h l = none := scanN_end hs1_ (by omega)
    refine AWp.hz [.run 3, .call 15 [.agg (avs (Codec.cells c)), .agg (avs (Home.cells h)), .rv (.sl 7 (l.map ItemV.cells))] (.tuple [vs ((encodeM c h l).1), vi ((encodeM c h l).2)]) [] 0 (encodeM_ok c h l (by first | omega | exact large_fields (by assumption) | (have := encodeM_size c h l; omega) | (simp only [ByteArray.size_extract]; omega))), .run 5] 112 [(2, .rv (.sl 7 (l.map ItemV.cells))), (3, .ptr 0 0), (4, .ptr 1 0), (8, vs ((encodeM c h l).1)), (9, vi ((encodeM c h l).2))] [(1, .box 28 (avs (Home.cells h))), (0, .box 24 (avs (Codec.cells c)))] 2 ?_
    refine AWp.seq ?_
    refine AWp.hz [.run 2] 112 [(2, .rv (.sl 7 (l.map ItemV.cells))), (3, .ptr 0 0), (4, .ptr 1 0), (8, vs ((encodeM c h l).1)), (54, vb (((encodeM c h l).2) != 0))] [(1, .box 28 (avs (Home.cells h))), (0, .box 24 (avs (Codec.cells c)))] 2 ?_
    refine AWp.cnd ((((encodeM c h l).2) != 0)) (fun h9 => ?_) (fun h9 => ?_)
    ·
     refine AWp.join (Z 112 [(6, vb (beqS ((encodeM c h l).1) (⟨#[]⟩)))] [] 2) ?_ ?_
     ·
      refine AWp.region ?_
      refine AOps.hg [.run 3] (beqS ((encodeM c h l).1) (⟨#[]⟩)) 112 (fun b_ => [(57, vb b_)]) [] 2 (fun hg10 => ?_) (fun hg10 => ?_)
      ·
       refine AOps.he [.call 9 [] (vb true) [] 0 (awake_ok), .run 2] 112 [(6, vb true)] [] 2 ?_
       exact leZ (by rw [hg10]; first | done | kernel_rfl)
      ·
       refine AOps.he [.run 3] 112 [(6, vb false)] [] 2 ?_
       exact leZ (by rw [hg10]; first | done | kernel_rfl)
     ·
      refine AWp.ret ?_
      exact leafR (r := vb (beqS ((encodeM c h l).1) (⟨#[]⟩))) (by unfold lBackM; (try rw [h5]); (try rw [hL1_]); (try rw [h9]); first | done | kernel_rfl)
    ·
     refine AWp.skip ?_
     obtain ⟨e2_, he2_⟩ := getEx (l := l) (j := 0) (by omega)
     refine AWp.dz [.agg (avs (Codec.cells c)), .agg (avs (Home.cells h)), .rv (.sl 7 (l.map ItemV.cells)), .rv (.ptr (ItemV.cells e2_)), .rv (.ptr (ItemV.cells e2_)), .rv (.ptr (ItemV.cells e2_)), vi e2_.key.dev, vs ((encodeM c h l).1), .tuple [.rv (.sl 7 (((decodeM c h e2_.key.dev ((encodeM c h l).1)).1).map ItemV.cells)), vi ((decodeM c h e2_.key.dev ((encodeM c h l).1)).2)], .tuple [.rv (.sl 7 (((decodeM c h e2_.key.dev ((encodeM c h l).1)).1).map ItemV.cells)), vi ((decodeM c h e2_.key.dev ((encodeM c h l).1)).2)], .rv (.sl 7 (((decodeM c h e2_.key.dev ((encodeM c h l).1)).1).map ItemV.cells)), vi ((decodeM c h e2_.key.dev ((encodeM c h l).1)).2), .rv (.sl 7 (((decodeM c h e2_.key.dev ((encodeM c h l).1)).1).map ItemV.cells)), vi ((decodeM c h e2_.key.dev ((encodeM c h l).1)).2)] 112 [(2, .rv (.sl 7 (l.map ItemV.cells))), (8, vs ((encodeM c h l).1)), (10, .rv (.sl 7 (((decodeM c h e2_.key.dev ((encodeM c h l).1)).1).map ItemV.cells))), (11, vi ((decodeM c h e2_.key.dev ((encodeM c h l).1)).2))] [] 2 ?_ ?_
     ·
      refine DSteps.cons (DStep.va) ?_
      refine DSteps.cons (DStep.va) ?_
      refine DSteps.cons (DStep.va) ?_
      refine DSteps.cons (DStep.vs (by kernel_rfl) (R_indexAddrM ItemV.cells l 7 0 rfl (by kernel_rfl) (by kernel_rfl) (by kernel_rfl) he2_)) ?_
      refine DSteps.cons (DStep.va) ?_
      refine DSteps.cons (DStep.va) ?_
      refine DSteps.cons (DStep.va) ?_
      refine DSteps.cons (DStep.va) ?_
      refine DSteps.cons (DStep.call rfl (by kernel_rfl) (by kernel_rfl) (by kernel_rfl) (args := [.agg (avs (Codec.cells c)), .agg (avs (Home.cells h)), vi e2_.key.dev, vs ((encodeM c h l).1)]) (by kernel_rfl) (by kernel_rfl) (decodeM_ok c h e2_.key.dev ((encodeM c h l).1) (by first | omega | exact large_fields (by assumption) | (have := encodeM_size c h l; omega) | (simp only [ByteArray.size_extract]; omega))) (by kernel_rfl) (Nat.le_of_ble_eq_true (by kernel_rfl))) ?_
      refine DSteps.cons (DStep.va) ?_
      refine DSteps.cons (DStep.va) ?_
      refine DSteps.cons (DStep.va) ?_
      refine DSteps.cons (DStep.va) ?_
      refine DSteps.cons (DStep.va) ?_
      exact DSteps.nl
     refine AWp.seq ?_
     refine AWp.join (Z 112 [(2, .rv (.sl 7 (l.map ItemV.cells))), (10, .rv (.sl 7 (((decodeM c h e2_.key.dev ((encodeM c h l).1)).1).map ItemV.cells))), (88, vb (((((decodeM c h e2_.key.dev ((encodeM c h l).1)).2) != 0) || (((((decodeM c h e2_.key.dev ((encodeM c h l).1)).1).length : Nat) : Int) != ((l.length : Nat) : Int))) || (((((encodeM c h l).1).size : Nat) : Int) != IntKind.i64.wrap (3 * ((l.length : Nat) : Int)))))] [] 2) ?_ ?_
     ·
      refine AWp.region ?_
      refine AOps.hg [.run 3] ((((decodeM c h e2_.key.dev ((encodeM c h l).1)).2) != 0)) 112 (fun b_ => [(2, .rv (.sl 7 (l.map ItemV.cells))), (8, vs ((encodeM c h l).1)), (10, .rv (.sl 7 (((decodeM c h e2_.key.dev ((encodeM c h l).1)).1).map ItemV.cells))), (74, vb b_)]) [] 2 (fun hg11 => ?_) (fun hg11 => ?_)
      ·
       refine AOps.he [.run 14] 112 [(2, .rv (.sl 7 (l.map ItemV.cells))), (10, .rv (.sl 7 (((decodeM c h e2_.key.dev ((encodeM c h l).1)).1).map ItemV.cells))), (88, vb true)] [] 2 ?_
       exact leZ (by rw [hg11]; first | done | kernel_rfl)
      ·
       refine AOps.hzl [.run 1, .len ItemV.cells ((decodeM c h e2_.key.dev ((encodeM c h l).1)).1) 7, .run 1, .len ItemV.cells l 7, .run 3] 112 [(2, .rv (.sl 7 (l.map ItemV.cells))), (8, vs ((encodeM c h l).1)), (10, .rv (.sl 7 (((decodeM c h e2_.key.dev ((encodeM c h l).1)).1).map ItemV.cells))), (81, vb (((((decodeM c h e2_.key.dev ((encodeM c h l).1)).1).length : Nat) : Int) != ((l.length : Nat) : Int)))] [] 2 (fun hl => ?_)
       obtain ⟨hn12, hn13, -⟩ := hl
       refine AOps.hg [] ((((((decodeM c h e2_.key.dev ((encodeM c h l).1)).1).length : Nat) : Int) != ((l.length : Nat) : Int))) 112 (fun b_ => [(2, .rv (.sl 7 (l.map ItemV.cells))), (8, vs ((encodeM c h l).1)), (10, .rv (.sl 7 (((decodeM c h e2_.key.dev ((encodeM c h l).1)).1).map ItemV.cells))), (81, vb b_)]) [] 2 (fun hg14 => ?_) (fun hg14 => ?_)
       ·
        have hg14' := bne_t hg14
        refine AOps.he [.run 7] 112 [(2, .rv (.sl 7 (l.map ItemV.cells))), (10, .rv (.sl 7 (((decodeM c h e2_.key.dev ((encodeM c h l).1)).1).map ItemV.cells))), (88, vb true)] [] 2 ?_
        exact leZ (by rw [hg11, hg14]; first | done | kernel_rfl)
       ·
        have hg14' := bne_f hg14
        refine AOps.hel [.run 3, .len ItemV.cells l 7, .run 3] 112 [(2, .rv (.sl 7 (l.map ItemV.cells))), (10, .rv (.sl 7 (((decodeM c h e2_.key.dev ((encodeM c h l).1)).1).map ItemV.cells))), (88, vb (((((encodeM c h l).1).size : Nat) : Int) != IntKind.i64.wrap (3 * ((l.length : Nat) : Int))))] [] 2 (fun hl => ?_)
        obtain ⟨hn15, -⟩ := hl
        exact leZ (by rw [hg11, hg14]; first | done | kernel_rfl)
     ·
      refine AWp.cnd ((((((decodeM c h e2_.key.dev ((encodeM c h l).1)).2) != 0) || (((((decodeM c h e2_.key.dev ((encodeM c h l).1)).1).length : Nat) : Int) != ((l.length : Nat) : Int))) || (((((encodeM c h l).1).size : Nat) : Int) != IntKind.i64.wrap (3 * ((l.length : Nat) : Int))))) (fun h16 => ?_) (fun h16 => ?_)
      ·
       refine AWp.hz [.run 1] 112 [(6, vb false)] [] 2 ?_
       refine AWp.ret ?_
       exact leafR (r := vb false) (by unfold lBackM; (try simp only [he2_]); (try rw [h5]); (try rw [hL1_]); (try rw [h9]); (try rw [h16]); first | done | kernel_rfl)
      ·
       have h16l := or_fl h16
       have h16ll := or_fl h16l
       have h16lr := or_fr h16l
       have h16lr' := bne_f h16lr
       have h16r := or_fr h16
       have h16r' := bne_f h16r
       refine AWp.skip ?_
       refine AWp.seq ?_
       refine AWp.hz [.run 1] 112 [(2, .rv (.sl 7 (l.map ItemV.cells))), (10, .rv (.sl 7 (((decodeM c h e2_.key.dev ((encodeM c h l).1)).1).map ItemV.cells))), (12, vi 0)] [] 2 ?_
       refine AWp.block ?_
       refine AWp.loop (ι := Nat) (fun k2_ => Z 112 [(2, .rv (.sl 7 (l.map ItemV.cells))), (10, .rv (.sl 7 (((decodeM c h e2_.key.dev ((encodeM c h l).1)).1).map ItemV.cells))), (12, vi ((k2_ : Nat) : Int))] [] 2) (fun k2_ => k2_ ≤ l.length ∧ lBackM_L2 c h l e2_ = scanN (lBackM_B2 c h l e2_) k2_ (l.length - k2_)) (fun k2_ => l.length - k2_) 0 leZ ⟨Nat.zero_le _, rfl⟩ ?_
       intro k2_ ⟨hk2_, hs2_⟩
       refine AWp.seq ?_
       refine AWp.hzl [.run 2, .len ItemV.cells l 7, .run 1] 112 [(2, .rv (.sl 7 (l.map ItemV.cells))), (10, .rv (.sl 7 (((decodeM c h e2_.key.dev ((encodeM c h l).1)).1).map ItemV.cells))), (12, vi ((k2_ : Nat) : Int)), (92, vb (decide (((k2_ : Nat) : Int) < ((l.length : Nat) : Int))))] [] 2 (fun hl => ?_)
       obtain ⟨hn17, -⟩ := hl
       refine AWp.cnd (decide (((k2_ : Nat) : Int) < ((l.length : Nat) : Int))) (fun h18 => ?_) (fun h18 => ?_)
       ·
        have h18' := of_decide_eq_true h18
        refine AWp.skip ?_
        refine AWp.seq ?_
        refine AWp.block ?_
        obtain ⟨e3_, he3_⟩ := getEx (l := (decodeM c h e2_.key.dev ((encodeM c h l).1)).1) (j := k2_) (by omega)
        obtain ⟨e4_, he4_⟩ := getEx (l := l) (j := k2_) (by omega)
        refine AWp.dz [.rv (.sl 7 (((decodeM c h e2_.key.dev ((encodeM c h l).1)).1).map ItemV.cells)), vi ((k2_ : Nat) : Int), .rv (.ptr (ItemV.cells e3_)), .agg (avs (ItemV.cells e3_)), .rv (.sl 7 (l.map ItemV.cells)), vi ((k2_ : Nat) : Int), .rv (.ptr (ItemV.cells e4_)), .rv (.ptr (ItemV.cells e4_)), .agg [vi e4_.key.dev, vs e4_.key.cluster, vs e4_.key.attr], .rv (.sl 7 (l.map ItemV.cells)), vi ((k2_ : Nat) : Int), .rv (.ptr (ItemV.cells e4_)), .rv (.ptr [.v (.int .i64 e4_.value.kind), .v (.int .i64 e4_.value.n), .v (.string e4_.value.s), .v (.int .i64 e4_.version)]), .agg [vi e4_.value.kind, vi e4_.value.n, vs e4_.value.s], .agg [vi e4_.key.dev, vs e4_.key.cluster, vs e4_.key.attr, vi e4_.value.kind, vi e4_.value.n, vs e4_.value.s, vi 0], vb (!(((e3_.key.dev == e4_.key.dev) && (beqS e3_.key.cluster e4_.key.cluster && (beqS e3_.key.attr e4_.key.attr && true))) && (((e3_.value.kind == e4_.value.kind) && ((e3_.value.n == e4_.value.n) && (beqS e3_.value.s e4_.value.s && true))) && ((e3_.version == 0) && true))))] 112 [(2, .rv (.sl 7 (l.map ItemV.cells))), (10, .rv (.sl 7 (((decodeM c h e2_.key.dev ((encodeM c h l).1)).1).map ItemV.cells))), (12, vi ((k2_ : Nat) : Int)), (110, vb (!(((e3_.key.dev == e4_.key.dev) && (beqS e3_.key.cluster e4_.key.cluster && (beqS e3_.key.attr e4_.key.attr && true))) && (((e3_.value.kind == e4_.value.kind) && ((e3_.value.n == e4_.value.n) && (beqS e3_.value.s e4_.value.s && true))) && ((e3_.version == 0) && true)))))] [] 2 ?_ ?_
        ·
         refine DSteps.cons (DStep.va) ?_
         refine DSteps.cons (DStep.va) ?_
         refine DSteps.cons (DStep.vs (by kernel_rfl) (R_indexAddrM ItemV.cells ((decodeM c h e2_.key.dev ((encodeM c h l).1)).1) 7 k2_ rfl (by kernel_rfl) (by kernel_rfl) (by kernel_rfl) he3_)) ?_
         refine DSteps.cons (DStep.va) ?_
         refine DSteps.cons (DStep.va) ?_
         refine DSteps.cons (DStep.va) ?_
         refine DSteps.cons (DStep.vs (by kernel_rfl) (R_indexAddrM ItemV.cells l 7 k2_ rfl (by kernel_rfl) (by kernel_rfl) (by kernel_rfl) he4_)) ?_
         refine DSteps.cons (DStep.va) ?_
         refine DSteps.cons (DStep.va) ?_
         refine DSteps.cons (DStep.va) ?_
         refine DSteps.cons (DStep.va) ?_
         refine DSteps.cons (DStep.vs (by kernel_rfl) (R_indexAddrM ItemV.cells l 7 k2_ rfl (by kernel_rfl) (by kernel_rfl) (by kernel_rfl) he4_)) ?_
         refine DSteps.cons (DStep.va) ?_
         refine DSteps.cons (DStep.va) ?_
         refine DSteps.cons (DStep.va) ?_
         refine DSteps.cons (DStep.va) ?_
         exact DSteps.nl
        refine AWp.cnd (!(((e3_.key.dev == e4_.key.dev) && (beqS e3_.key.cluster e4_.key.cluster && (beqS e3_.key.attr e4_.key.attr && true))) && (((e3_.value.kind == e4_.value.kind) && ((e3_.value.n == e4_.value.n) && (beqS e3_.value.s e4_.value.s && true))) && ((e3_.version == 0) && true)))) (fun h19 => ?_) (fun h19 => ?_)
        ·
         refine AWp.hz [.run 1] 112 [(6, vb false)] [] 2 ?_
         refine AWp.ret ?_
         have hL2_ : lBackM_L2 c h l e2_ = some false := scanN_some hs2_ (by omega) (by unfold lBackM_B2; (try simp only [he2_]); (try simp only [he3_]); (try simp only [he4_]); (try rw [h18]); (try rw [h19]); first | done | kernel_rfl)
         exact leafR (r := vb false) (by unfold lBackM; (try simp only [he2_]); (try rw [h5]); (try rw [hL1_]); (try rw [h9]); (try rw [h16]); (try rw [hL2_]); first | done | kernel_rfl)
        ·
         refine AWp.skip ?_
         refine AWp.he [.run 1, .cast (vi (IntKind.i64.wrap (((k2_ : Nat) : Int) + 1))) (vi ((k2_ + 1 : Nat) : Int)) (congrArg vi (wrap_nat (by omega))), .run 1] 112 [(2, .rv (.sl 7 (l.map ItemV.cells))), (10, .rv (.sl 7 (((decodeM c h e2_.key.dev ((encodeM c h l).1)).1).map ItemV.cells))), (12, vi ((k2_ + 1 : Nat) : Int))] [] 2 ?_
         exact ⟨k2_ + 1, ⟨by omega, scanN_none hs2_ (by omega) (by unfold lBackM_B2; (try simp only [he2_]); (try simp only [he3_]); (try simp only [he4_]); (try rw [h18]); (try rw [h19]); first | done | kernel_rfl)⟩, by omega, leG⟩
       ·
        have h18' := of_decide_eq_false h18
        refine AWp.exit ?_
        have hL2_ : lBackM_L2 c h l e2_ = none := scanN_end hs2_ (by omega)
        refine AWp.hz [.call 9 [] (vb true) [] 0 (awake_ok), .run 1] 112 [(6, vb true)] [] 2 ?_
        refine AWp.ret ?_
        exact leafR (r := vb true) (by unfold lBackM; (try simp only [he2_]); (try rw [h5]); (try rw [hL1_]); (try rw [h9]); (try rw [h16]); (try rw [hL2_]); first | done | kernel_rfl)
def lPartsM_B1 (c : Codec) (h : Home) (x : Raw23) (k1_ : Nat) : Option Bool :=
  (bif (((decodeM c h x.dev (x.bytes.extract ((3 * ((k1_ : Nat) : Int)).toNat) ((IntKind.i64.wrap (3 * ((k1_ : Nat) : Int)) + 3).toNat))).2) != 0) then some false else (bif (((((decodeM c h x.dev (x.bytes.extract ((3 * ((k1_ : Nat) : Int)).toNat) ((IntKind.i64.wrap (3 * ((k1_ : Nat) : Int)) + 3).toNat))).1).length : Nat) : Int) != 1) then some false else (match ((decodeM c h x.dev (x.bytes.extract ((3 * ((k1_ : Nat) : Int)).toNat) ((IntKind.i64.wrap (3 * ((k1_ : Nat) : Int)) + 3).toNat))).1)[0]? with | some e1_ => (match ((decodeM c h x.dev x.bytes).1)[k1_]? with | some e2_ => (bif !(((e1_.key.dev == e2_.key.dev) && (beqS e1_.key.cluster e2_.key.cluster && (beqS e1_.key.attr e2_.key.attr && true))) && (((e1_.value.kind == e2_.value.kind) && ((e1_.value.n == e2_.value.n) && (beqS e1_.value.s e2_.value.s && true))) && ((e1_.version == e2_.version) && true))) then some false else (bif (e2_.key.dev != x.dev) then some false else (bif (!((findM h e2_.key).2) || (fitsM ((findM h e2_.key).1) e2_.value != 0)) then some false else none))) | none => none) | none => none)))
def lPartsM_L1 (c : Codec) (h : Home) (x : Raw23) : Option Bool := scanN (lPartsM_B1 c h x) 0 (((decodeM c h x.dev x.bytes).1).length)
def lPartsM (c : Codec) (h : Home) (x : Raw23) : Bool :=
  ((largeM c h || decide (((x.bytes.size : Nat) : Int) > 60)) || (bif (((decodeM c h x.dev x.bytes).2) != 0) then (((((decodeM c h x.dev x.bytes).1).length : Nat) : Int) == 0) else (bif (((x.bytes.size : Nat) : Int) != IntKind.i64.wrap (3 * ((((decodeM c h x.dev x.bytes).1).length : Nat) : Int))) then false else (lPartsM_L1 c h x).getD true)))
theorem lPartsM_ok (c : Codec) (h : Home) (x : Raw23) :
 ACalls Try.prog G_ 7 [.agg (avs (Codec.cells c)), .agg (avs (Home.cells h)), .agg (avs (Raw23.cells x))] [] 0 (fun r τ => r = vb (lPartsM c h x) ∧ τ = []) := by
 have hdl_ : x.bytes.size ≤ 1000 → 3 * (decodeM c h x.dev x.bytes).1.length ≤ x.bytes.size := fun h_ => decodeM_len h_
 refine ACalls.body Try.func7 rfl 122 [(0, .agg (avs (Codec.cells c))), (1, .agg (avs (Home.cells h))), (2, .agg (avs (Raw23.cells x)))] ?_
 refine AWp.hz [.run 4] 122 [(3, .ptr 0 0), (4, .ptr 1 0), (5, .ptr 2 0)] [(2, .box 34 (avs (Raw23.cells x))), (1, .box 28 (avs (Home.cells h))), (0, .box 24 (avs (Codec.cells c)))] 3 ?_
 refine AWp.seq ?_
 refine AWp.join (Z 122 [(3, .ptr 0 0), (4, .ptr 1 0), (5, .ptr 2 0), (22, vb (largeM c h || decide (((x.bytes.size : Nat) : Int) > 60)))] [(2, .box 34 (avs (Raw23.cells x))), (1, .box 28 (avs (Home.cells h))), (0, .box 24 (avs (Codec.cells c)))] 3) ?_ ?_
 ·
  refine AWp.region ?_
  refine AOps.hg [.run 2, .call 8 [.agg (avs (Codec.cells c)), .agg (avs (Home.cells h))] (vb (largeM c h)) [] 0 (largeM_ok c h), .run 1] (largeM c h) 122 (fun b_ => [(3, .ptr 0 0), (4, .ptr 1 0), (5, .ptr 2 0), (17, vb b_)]) [(2, .box 34 (avs (Raw23.cells x))), (1, .box 28 (avs (Home.cells h))), (0, .box 24 (avs (Codec.cells c)))] 3 (fun hg1 => ?_) (fun hg1 => ?_)
  ·
   refine AOps.he [.run 5] 122 [(3, .ptr 0 0), (4, .ptr 1 0), (5, .ptr 2 0), (22, vb true)] [(2, .box 34 (avs (Raw23.cells x))), (1, .box 28 (avs (Home.cells h))), (0, .box 24 (avs (Codec.cells c)))] 3 ?_
   exact leZ (by rw [hg1]; first | done | kernel_rfl)
  ·
   refine AOps.he [.run 5] 122 [(3, .ptr 0 0), (4, .ptr 1 0), (5, .ptr 2 0), (22, vb (decide (((x.bytes.size : Nat) : Int) > 60)))] [(2, .box 34 (avs (Raw23.cells x))), (1, .box 28 (avs (Home.cells h))), (0, .box 24 (avs (Codec.cells c)))] 3 ?_
   exact leZ (by rw [hg1]; first | done | kernel_rfl)
 ·
  refine AWp.cnd ((largeM c h || decide (((x.bytes.size : Nat) : Int) > 60))) (fun h2 => ?_) (fun h2 => ?_)
  ·
   refine AWp.hz [.call 9 [] (vb true) [] 0 (awake_ok), .run 1] 122 [(6, vb true)] [] 3 ?_
   refine AWp.ret ?_
   exact leafR (r := vb true) (by unfold lPartsM; (try rw [h2]); first | done | kernel_rfl)
  ·
   have h2l := or_fl h2
   have h2r := or_fr h2
   have h2r' := of_decide_eq_false h2r
   refine AWp.skip ?_
   refine AWp.hz [.run 6, .call 12 [.agg (avs (Codec.cells c)), .agg (avs (Home.cells h)), vi x.dev, vs x.bytes] (.tuple [.rv (.sl 7 (((decodeM c h x.dev x.bytes).1).map ItemV.cells)), vi ((decodeM c h x.dev x.bytes).2)]) [] 0 (decodeM_ok c h x.dev x.bytes (by first | omega | (simp only [ByteArray.size_extract]; omega))), .run 5] 122 [(3, .ptr 0 0), (4, .ptr 1 0), (5, .ptr 2 0), (7, .rv (.sl 7 (((decodeM c h x.dev x.bytes).1).map ItemV.cells))), (8, vi ((decodeM c h x.dev x.bytes).2))] [(2, .box 34 (avs (Raw23.cells x))), (1, .box 28 (avs (Home.cells h))), (0, .box 24 (avs (Codec.cells c)))] 3 ?_
   refine AWp.seq ?_
   refine AWp.hz [.run 2] 122 [(3, .ptr 0 0), (4, .ptr 1 0), (5, .ptr 2 0), (7, .rv (.sl 7 (((decodeM c h x.dev x.bytes).1).map ItemV.cells))), (35, vb (((decodeM c h x.dev x.bytes).2) != 0))] [(2, .box 34 (avs (Raw23.cells x))), (1, .box 28 (avs (Home.cells h))), (0, .box 24 (avs (Codec.cells c)))] 3 ?_
   refine AWp.cnd ((((decodeM c h x.dev x.bytes).2) != 0)) (fun h3 => ?_) (fun h3 => ?_)
   ·
    refine AWp.join (Z 122 [(6, vb (((((decodeM c h x.dev x.bytes).1).length : Nat) : Int) == 0))] [] 3) ?_ ?_
    ·
     refine AWp.region ?_
     refine AOps.hzl [.run 1, .len ItemV.cells ((decodeM c h x.dev x.bytes).1) 7, .run 2] 122 [(39, vb (((((decodeM c h x.dev x.bytes).1).length : Nat) : Int) == 0))] [] 3 (fun hl => ?_)
     obtain ⟨hn4, -⟩ := hl
     refine AOps.hg [] ((((((decodeM c h x.dev x.bytes).1).length : Nat) : Int) == 0)) 122 (fun b_ => [(39, vb b_)]) [] 3 (fun hg5 => ?_) (fun hg5 => ?_)
     ·
      have hg5' := beq_t hg5
      refine AOps.he [.call 9 [] (vb true) [] 0 (awake_ok), .run 2] 122 [(6, vb true)] [] 3 ?_
      exact leZ (by rw [hg5]; first | done | kernel_rfl)
     ·
      have hg5' := beq_f hg5
      refine AOps.he [.run 3] 122 [(6, vb false)] [] 3 ?_
      exact leZ (by rw [hg5]; first | done | kernel_rfl)
    ·
     refine AWp.ret ?_
     exact leafR (r := vb (((((decodeM c h x.dev x.bytes).1).length : Nat) : Int) == 0)) (by unfold lPartsM; (try rw [h2]); (try rw [h3]); first | done | kernel_rfl)
   ·
    refine AWp.skip ?_
    refine AWp.seq ?_
    refine AWp.hzl [.run 4, .len ItemV.cells ((decodeM c h x.dev x.bytes).1) 7, .run 2] 122 [(3, .ptr 0 0), (4, .ptr 1 0), (5, .ptr 2 0), (7, .rv (.sl 7 (((decodeM c h x.dev x.bytes).1).map ItemV.cells))), (48, vb (((x.bytes.size : Nat) : Int) != IntKind.i64.wrap (3 * ((((decodeM c h x.dev x.bytes).1).length : Nat) : Int))))] [(2, .box 34 (avs (Raw23.cells x))), (1, .box 28 (avs (Home.cells h))), (0, .box 24 (avs (Codec.cells c)))] 3 (fun hl => ?_)
    obtain ⟨hn6, -⟩ := hl
    refine AWp.cnd ((((x.bytes.size : Nat) : Int) != IntKind.i64.wrap (3 * ((((decodeM c h x.dev x.bytes).1).length : Nat) : Int)))) (fun h7 => ?_) (fun h7 => ?_)
    ·
     have h7' := bne_t h7
     refine AWp.hz [.run 1] 122 [(6, vb false)] [] 3 ?_
     refine AWp.ret ?_
     exact leafR (r := vb false) (by unfold lPartsM; (try rw [h2]); (try rw [h3]); (try rw [h7]); first | done | kernel_rfl)
    ·
     have h7' := bne_f h7
     refine AWp.skip ?_
     refine AWp.seq ?_
     refine AWp.hz [.run 1] 122 [(3, .ptr 0 0), (4, .ptr 1 0), (5, .ptr 2 0), (7, .rv (.sl 7 (((decodeM c h x.dev x.bytes).1).map ItemV.cells))), (9, vi 0)] [(2, .box 34 (avs (Raw23.cells x))), (1, .box 28 (avs (Home.cells h))), (0, .box 24 (avs (Codec.cells c)))] 3 ?_
     refine AWp.block ?_
     refine AWp.loop (ι := Nat) (fun k1_ => Z 122 [(3, .ptr 0 0), (4, .ptr 1 0), (5, .ptr 2 0), (7, .rv (.sl 7 (((decodeM c h x.dev x.bytes).1).map ItemV.cells))), (9, vi ((k1_ : Nat) : Int))] [(2, .box 34 (avs (Raw23.cells x))), (1, .box 28 (avs (Home.cells h))), (0, .box 24 (avs (Codec.cells c)))] 3) (fun k1_ => k1_ ≤ (((decodeM c h x.dev x.bytes).1).length) ∧ lPartsM_L1 c h x = scanN (lPartsM_B1 c h x) k1_ ((((decodeM c h x.dev x.bytes).1).length) - k1_)) (fun k1_ => (((decodeM c h x.dev x.bytes).1).length) - k1_) 0 leZ ⟨Nat.zero_le _, rfl⟩ ?_
     intro k1_ ⟨hk1_, hs1_⟩
     refine AWp.seq ?_
     refine AWp.hzl [.run 2, .len ItemV.cells ((decodeM c h x.dev x.bytes).1) 7, .run 1] 122 [(3, .ptr 0 0), (4, .ptr 1 0), (5, .ptr 2 0), (7, .rv (.sl 7 (((decodeM c h x.dev x.bytes).1).map ItemV.cells))), (9, vi ((k1_ : Nat) : Int)), (52, vb (decide (((k1_ : Nat) : Int) < ((((decodeM c h x.dev x.bytes).1).length : Nat) : Int))))] [(2, .box 34 (avs (Raw23.cells x))), (1, .box 28 (avs (Home.cells h))), (0, .box 24 (avs (Codec.cells c)))] 3 (fun hl => ?_)
     obtain ⟨hn8, -⟩ := hl
     refine AWp.cnd (decide (((k1_ : Nat) : Int) < ((((decodeM c h x.dev x.bytes).1).length : Nat) : Int))) (fun h9 => ?_) (fun h9 => ?_)
     ·
      have h9' := of_decide_eq_true h9
      refine AWp.skip ?_
      refine AWp.seq ?_
      refine AWp.block ?_
      have ht10 : IntKind.i64.wrap (3 * ((k1_ : Nat) : Int)) = (((3 * ((k1_ : Nat) : Int)).toNat : Nat) : Int) := by rw [wrap64_of _ (by omega) (by omega)]; exact (Int.toNat_of_nonneg (by omega)).symm
      have ht11 : IntKind.i64.wrap (IntKind.i64.wrap (3 * ((k1_ : Nat) : Int)) + 3) = (((IntKind.i64.wrap (3 * ((k1_ : Nat) : Int)) + 3).toNat : Nat) : Int) := by rw [wrap64_of _ (by omega) (by omega)]; exact (Int.toNat_of_nonneg (by omega)).symm
      have ht12 : IntKind.i64.wrap (3 * ((k1_ : Nat) : Int)) = (((3 * ((k1_ : Nat) : Int)).toNat : Nat) : Int) := by rw [wrap64_of _ (by omega) (by omega)]; exact (Int.toNat_of_nonneg (by omega)).symm
      have ht13 : IntKind.i64.wrap (IntKind.i64.wrap (3 * ((k1_ : Nat) : Int)) + 3) = (((IntKind.i64.wrap (3 * ((k1_ : Nat) : Int)) + 3).toNat : Nat) : Int) := by rw [wrap64_of _ (by omega) (by omega)]; exact (Int.toNat_of_nonneg (by omega)).symm
      refine AWp.seq ?_
      refine AWp.cut (fuel := 0) (m := [true, true, true, true, true, true, true, true, true, true, true, true, true, true, true, true, true, true]) (s := Z 122 [(3, .ptr 0 0), (4, .ptr 1 0), (5, .ptr 2 0), (7, .rv (.sl 7 (((decodeM c h x.dev x.bytes).1).map ItemV.cells))), (9, vi ((k1_ : Nat) : Int)), (10, .rv (.sl 7 (((decodeM c h x.dev (x.bytes.extract ((3 * ((k1_ : Nat) : Int)).toNat) ((IntKind.i64.wrap (3 * ((k1_ : Nat) : Int)) + 3).toNat))).1).map ItemV.cells))), (11, vi ((decodeM c h x.dev (x.bytes.extract ((3 * ((k1_ : Nat) : Int)).toNat) ((IntKind.i64.wrap (3 * ((k1_ : Nat) : Int)) + 3).toNat))).2))] [(0, .box 24 (avs (Codec.cells c))), (1, .box 28 (avs (Home.cells h))), (2, .box 34 (avs (Raw23.cells x)))] 3) (AD.done ?_) (fun hd30 => ?_)
      ·
       refine AWp.seq ?_
       refine AWp.split ((((decodeM c h x.dev (x.bytes.extract ((3 * ((k1_ : Nat) : Int)).toNat) ((IntKind.i64.wrap (3 * ((k1_ : Nat) : Int)) + 3).toNat))).2) != 0)) (fun h31 => ?_) (fun h31 => ?_)
       ·
        have h31' := bne_t h31
        refine AWp.dz [vi ((decodeM c h x.dev (x.bytes.extract ((3 * ((k1_ : Nat) : Int)).toNat) ((IntKind.i64.wrap (3 * ((k1_ : Nat) : Int)) + 3).toNat))).2), vb true, vb true, .tuple [], .tuple [], .tuple [], vb true, vb true, .tuple [], .tuple [], .tuple [], .tuple [], .tuple [], .tuple [], .tuple [], .tuple [], vb true, vb true, .tuple [], .tuple [], .tuple [], .tuple [], .tuple [], .tuple [], .tuple [], .tuple [], .tuple [], vb true] 122 [(3, .ptr 0 0), (4, .ptr 1 0), (5, .ptr 2 0), (7, .rv (.sl 7 (((decodeM c h x.dev x.bytes).1).map ItemV.cells))), (9, vi ((k1_ : Nat) : Int)), (98, vb true)] [(0, .box 24 (avs (Codec.cells c))), (1, .box 28 (avs (Home.cells h))), (2, .box 34 (avs (Raw23.cells x)))] 3 ?_ ?_
        ·
         refine DSteps.cons (DStep.va) ?_
         refine DSteps.cons ((DStep.val (v := vb (((decodeM c h x.dev (x.bytes.extract ((3 * ((k1_ : Nat) : Int)).toNat) ((IntKind.i64.wrap (3 * ((k1_ : Nat) : Int)) + 3).toNat))).2) != 0)) (by kernel_rfl) (by kernel_rfl)).cast (congrArg vb h31)) ?_
         refine DSteps.cons (DStep.va) ?_
         refine DSteps.cons (DStep.skip (by kernel_rfl)) ?_
         refine DSteps.cons (DStep.skip (by kernel_rfl)) ?_
         refine DSteps.cons (DStep.skip (by kernel_rfl)) ?_
         refine DSteps.cons (DStep.va) ?_
         refine DSteps.cons (DStep.va) ?_
         refine DSteps.cons (DStep.skip (by kernel_rfl)) ?_
         refine DSteps.cons (DStep.skip (by kernel_rfl)) ?_
         refine DSteps.cons (DStep.skip (by kernel_rfl)) ?_
         refine DSteps.cons (DStep.skip (by kernel_rfl)) ?_
         refine DSteps.cons (DStep.skip (by kernel_rfl)) ?_
         refine DSteps.cons (DStep.skip (by kernel_rfl)) ?_
         refine DSteps.cons (DStep.skip (by kernel_rfl)) ?_
         refine DSteps.cons (DStep.skip (by kernel_rfl)) ?_
         refine DSteps.cons (DStep.va) ?_
         refine DSteps.cons (DStep.va) ?_
         refine DSteps.cons (DStep.skip (by kernel_rfl)) ?_
         refine DSteps.cons (DStep.skip (by kernel_rfl)) ?_
         refine DSteps.cons (DStep.skip (by kernel_rfl)) ?_
         refine DSteps.cons (DStep.skip (by kernel_rfl)) ?_
         refine DSteps.cons (DStep.skip (by kernel_rfl)) ?_
         refine DSteps.cons (DStep.skip (by kernel_rfl)) ?_
         refine DSteps.cons (DStep.skip (by kernel_rfl)) ?_
         refine DSteps.cons (DStep.skip (by kernel_rfl)) ?_
         refine DSteps.cons (DStep.skip (by kernel_rfl)) ?_
         refine DSteps.cons (DStep.va) ?_
         exact DSteps.nl
        refine AWp.cndT ?_
        refine AWp.hz [.run 1] 122 [(6, vb false)] [] 3 ?_
        refine AWp.ret ?_
        have hL1_ : lPartsM_L1 c h x = some false := scanN_some hs1_ (by omega) (by unfold lPartsM_B1; (try rw [h9]); (try rw [h31]); first | done | kernel_rfl)
        exact leafR (r := vb false) (by unfold lPartsM; (try rw [h2]); (try rw [h3]); (try rw [h7]); (try rw [hL1_]); first | done | kernel_rfl)
       ·
        have h31' := bne_f h31
        refine AWp.split ((((((decodeM c h x.dev (x.bytes.extract ((3 * ((k1_ : Nat) : Int)).toNat) ((IntKind.i64.wrap (3 * ((k1_ : Nat) : Int)) + 3).toNat))).1).length : Nat) : Int) != 1)) (fun h32 => ?_) (fun h32 => ?_)
        ·
         have h32' := bne_t h32
         refine AWp.dz [vi ((decodeM c h x.dev (x.bytes.extract ((3 * ((k1_ : Nat) : Int)).toNat) ((IntKind.i64.wrap (3 * ((k1_ : Nat) : Int)) + 3).toNat))).2), vb false, vb false, .rv (.sl 7 (((decodeM c h x.dev (x.bytes.extract ((3 * ((k1_ : Nat) : Int)).toNat) ((IntKind.i64.wrap (3 * ((k1_ : Nat) : Int)) + 3).toNat))).1).map ItemV.cells)), vi ((((decodeM c h x.dev (x.bytes.extract ((3 * ((k1_ : Nat) : Int)).toNat) ((IntKind.i64.wrap (3 * ((k1_ : Nat) : Int)) + 3).toNat))).1).length : Nat) : Int), vb true, vb true, vb true, .tuple [], .tuple [], .tuple [], .tuple [], .tuple [], .tuple [], .tuple [], .tuple [], vb true, vb true, .tuple [], .tuple [], .tuple [], .tuple [], .tuple [], .tuple [], .tuple [], .tuple [], .tuple [], vb true] 122 [(3, .ptr 0 0), (4, .ptr 1 0), (5, .ptr 2 0), (7, .rv (.sl 7 (((decodeM c h x.dev x.bytes).1).map ItemV.cells))), (9, vi ((k1_ : Nat) : Int)), (98, vb true)] [(0, .box 24 (avs (Codec.cells c))), (1, .box 28 (avs (Home.cells h))), (2, .box 34 (avs (Raw23.cells x)))] 3 ?_ ?_
         ·
          refine DSteps.cons (DStep.va) ?_
          refine DSteps.cons ((DStep.val (v := vb (((decodeM c h x.dev (x.bytes.extract ((3 * ((k1_ : Nat) : Int)).toNat) ((IntKind.i64.wrap (3 * ((k1_ : Nat) : Int)) + 3).toNat))).2) != 0)) (by kernel_rfl) (by kernel_rfl)).cast (congrArg vb h31)) ?_
          refine DSteps.cons (DStep.va) ?_
          refine DSteps.cons (DStep.va) ?_
          refine DSteps.cons (DStep.vs (by kernel_rfl) (R_lenM ItemV.cells ((decodeM c h x.dev (x.bytes.extract ((3 * ((k1_ : Nat) : Int)).toNat) ((IntKind.i64.wrap (3 * ((k1_ : Nat) : Int)) + 3).toNat))).1) 7 rfl (by kernel_rfl) (by kernel_rfl))) ?_
          refine DSteps.cons ((DStep.val (v := vb (((((decodeM c h x.dev (x.bytes.extract ((3 * ((k1_ : Nat) : Int)).toNat) ((IntKind.i64.wrap (3 * ((k1_ : Nat) : Int)) + 3).toNat))).1).length : Nat) : Int) != 1)) (by kernel_rfl) (by kernel_rfl)).cast (congrArg vb h32)) ?_
          refine DSteps.cons (DStep.va) ?_
          refine DSteps.cons (DStep.va) ?_
          refine DSteps.cons (DStep.skip (by kernel_rfl)) ?_
          refine DSteps.cons (DStep.skip (by kernel_rfl)) ?_
          refine DSteps.cons (DStep.skip (by kernel_rfl)) ?_
          refine DSteps.cons (DStep.skip (by kernel_rfl)) ?_
          refine DSteps.cons (DStep.skip (by kernel_rfl)) ?_
          refine DSteps.cons (DStep.skip (by kernel_rfl)) ?_
          refine DSteps.cons (DStep.skip (by kernel_rfl)) ?_
          refine DSteps.cons (DStep.skip (by kernel_rfl)) ?_
          refine DSteps.cons (DStep.va) ?_
          refine DSteps.cons (DStep.va) ?_
          refine DSteps.cons (DStep.skip (by kernel_rfl)) ?_
          refine DSteps.cons (DStep.skip (by kernel_rfl)) ?_
          refine DSteps.cons (DStep.skip (by kernel_rfl)) ?_
          refine DSteps.cons (DStep.skip (by kernel_rfl)) ?_
          refine DSteps.cons (DStep.skip (by kernel_rfl)) ?_
          refine DSteps.cons (DStep.skip (by kernel_rfl)) ?_
          refine DSteps.cons (DStep.skip (by kernel_rfl)) ?_
          refine DSteps.cons (DStep.skip (by kernel_rfl)) ?_
          refine DSteps.cons (DStep.skip (by kernel_rfl)) ?_
          refine DSteps.cons (DStep.va) ?_
          exact DSteps.nl
         refine AWp.cndT ?_
         refine AWp.hz [.run 1] 122 [(6, vb false)] [] 3 ?_
         refine AWp.ret ?_
         have hL1_ : lPartsM_L1 c h x = some false := scanN_some hs1_ (by omega) (by unfold lPartsM_B1; (try rw [h9]); (try rw [h31]); (try rw [h32]); first | done | kernel_rfl)
         exact leafR (r := vb false) (by unfold lPartsM; (try rw [h2]); (try rw [h3]); (try rw [h7]); (try rw [hL1_]); first | done | kernel_rfl)
        ·
         have h32' := bne_f h32
         obtain ⟨e1_, he1_⟩ := getEx (l := (decodeM c h x.dev (x.bytes.extract ((3 * ((k1_ : Nat) : Int)).toNat) ((IntKind.i64.wrap (3 * ((k1_ : Nat) : Int)) + 3).toNat))).1) (j := 0) (by omega)
         obtain ⟨e2_, he2_⟩ := getEx (l := (decodeM c h x.dev x.bytes).1) (j := k1_) (by omega)
         refine AWp.split (!(((e1_.key.dev == e2_.key.dev) && (beqS e1_.key.cluster e2_.key.cluster && (beqS e1_.key.attr e2_.key.attr && true))) && (((e1_.value.kind == e2_.value.kind) && ((e1_.value.n == e2_.value.n) && (beqS e1_.value.s e2_.value.s && true))) && ((e1_.version == e2_.version) && true)))) (fun h33 => ?_) (fun h33 => ?_)
         ·
          refine AWp.dz [vi ((decodeM c h x.dev (x.bytes.extract ((3 * ((k1_ : Nat) : Int)).toNat) ((IntKind.i64.wrap (3 * ((k1_ : Nat) : Int)) + 3).toNat))).2), vb false, vb false, .rv (.sl 7 (((decodeM c h x.dev (x.bytes.extract ((3 * ((k1_ : Nat) : Int)).toNat) ((IntKind.i64.wrap (3 * ((k1_ : Nat) : Int)) + 3).toNat))).1).map ItemV.cells)), vi ((((decodeM c h x.dev (x.bytes.extract ((3 * ((k1_ : Nat) : Int)).toNat) ((IntKind.i64.wrap (3 * ((k1_ : Nat) : Int)) + 3).toNat))).1).length : Nat) : Int), vb false, vb false, vb false, .rv (.sl 7 (((decodeM c h x.dev (x.bytes.extract ((3 * ((k1_ : Nat) : Int)).toNat) ((IntKind.i64.wrap (3 * ((k1_ : Nat) : Int)) + 3).toNat))).1).map ItemV.cells)), .rv (.ptr (ItemV.cells e1_)), .agg (avs (ItemV.cells e1_)), .rv (.sl 7 (((decodeM c h x.dev x.bytes).1).map ItemV.cells)), vi ((k1_ : Nat) : Int), .rv (.ptr (ItemV.cells e2_)), .agg (avs (ItemV.cells e2_)), vb true, vb true, vb true, .tuple [], .tuple [], .tuple [], .tuple [], .tuple [], .tuple [], .tuple [], .tuple [], .tuple [], vb true] 122 [(3, .ptr 0 0), (4, .ptr 1 0), (5, .ptr 2 0), (7, .rv (.sl 7 (((decodeM c h x.dev x.bytes).1).map ItemV.cells))), (9, vi ((k1_ : Nat) : Int)), (98, vb true)] [(0, .box 24 (avs (Codec.cells c))), (1, .box 28 (avs (Home.cells h))), (2, .box 34 (avs (Raw23.cells x)))] 3 ?_ ?_
          ·
           refine DSteps.cons (DStep.va) ?_
           refine DSteps.cons ((DStep.val (v := vb (((decodeM c h x.dev (x.bytes.extract ((3 * ((k1_ : Nat) : Int)).toNat) ((IntKind.i64.wrap (3 * ((k1_ : Nat) : Int)) + 3).toNat))).2) != 0)) (by kernel_rfl) (by kernel_rfl)).cast (congrArg vb h31)) ?_
           refine DSteps.cons (DStep.va) ?_
           refine DSteps.cons (DStep.va) ?_
           refine DSteps.cons (DStep.vs (by kernel_rfl) (R_lenM ItemV.cells ((decodeM c h x.dev (x.bytes.extract ((3 * ((k1_ : Nat) : Int)).toNat) ((IntKind.i64.wrap (3 * ((k1_ : Nat) : Int)) + 3).toNat))).1) 7 rfl (by kernel_rfl) (by kernel_rfl))) ?_
           refine DSteps.cons ((DStep.val (v := vb (((((decodeM c h x.dev (x.bytes.extract ((3 * ((k1_ : Nat) : Int)).toNat) ((IntKind.i64.wrap (3 * ((k1_ : Nat) : Int)) + 3).toNat))).1).length : Nat) : Int) != 1)) (by kernel_rfl) (by kernel_rfl)).cast (congrArg vb h32)) ?_
           refine DSteps.cons (DStep.va) ?_
           refine DSteps.cons (DStep.va) ?_
           refine DSteps.cons (DStep.va) ?_
           refine DSteps.cons (DStep.vs (by kernel_rfl) (R_indexAddrM ItemV.cells ((decodeM c h x.dev (x.bytes.extract ((3 * ((k1_ : Nat) : Int)).toNat) ((IntKind.i64.wrap (3 * ((k1_ : Nat) : Int)) + 3).toNat))).1) 7 0 rfl (by kernel_rfl) (by kernel_rfl) (by kernel_rfl) he1_)) ?_
           refine DSteps.cons (DStep.va) ?_
           refine DSteps.cons (DStep.va) ?_
           refine DSteps.cons (DStep.va) ?_
           refine DSteps.cons (DStep.vs (by kernel_rfl) (R_indexAddrM ItemV.cells ((decodeM c h x.dev x.bytes).1) 7 k1_ rfl (by kernel_rfl) (by kernel_rfl) (by kernel_rfl) he2_)) ?_
           refine DSteps.cons (DStep.va) ?_
           refine DSteps.cons ((DStep.val (v := vb (!(((e1_.key.dev == e2_.key.dev) && (beqS e1_.key.cluster e2_.key.cluster && (beqS e1_.key.attr e2_.key.attr && true))) && (((e1_.value.kind == e2_.value.kind) && ((e1_.value.n == e2_.value.n) && (beqS e1_.value.s e2_.value.s && true))) && ((e1_.version == e2_.version) && true))))) (by kernel_rfl) (by kernel_rfl)).cast (congrArg vb h33)) ?_
           refine DSteps.cons (DStep.va) ?_
           refine DSteps.cons (DStep.va) ?_
           refine DSteps.cons (DStep.skip (by kernel_rfl)) ?_
           refine DSteps.cons (DStep.skip (by kernel_rfl)) ?_
           refine DSteps.cons (DStep.skip (by kernel_rfl)) ?_
           refine DSteps.cons (DStep.skip (by kernel_rfl)) ?_
           refine DSteps.cons (DStep.skip (by kernel_rfl)) ?_
           refine DSteps.cons (DStep.skip (by kernel_rfl)) ?_
           refine DSteps.cons (DStep.skip (by kernel_rfl)) ?_
           refine DSteps.cons (DStep.skip (by kernel_rfl)) ?_
           refine DSteps.cons (DStep.skip (by kernel_rfl)) ?_
           refine DSteps.cons (DStep.va) ?_
           exact DSteps.nl
          refine AWp.cndT ?_
          refine AWp.hz [.run 1] 122 [(6, vb false)] [] 3 ?_
          refine AWp.ret ?_
          have hL1_ : lPartsM_L1 c h x = some false := scanN_some hs1_ (by omega) (by unfold lPartsM_B1; (try simp only [he1_]); (try simp only [he2_]); (try rw [h9]); (try rw [h31]); (try rw [h32]); (try rw [h33]); first | done | kernel_rfl)
          exact leafR (r := vb false) (by unfold lPartsM; (try rw [h2]); (try rw [h3]); (try rw [h7]); (try rw [hL1_]); first | done | kernel_rfl)
         ·
          refine AWp.dz [vi ((decodeM c h x.dev (x.bytes.extract ((3 * ((k1_ : Nat) : Int)).toNat) ((IntKind.i64.wrap (3 * ((k1_ : Nat) : Int)) + 3).toNat))).2), vb false, vb false, .rv (.sl 7 (((decodeM c h x.dev (x.bytes.extract ((3 * ((k1_ : Nat) : Int)).toNat) ((IntKind.i64.wrap (3 * ((k1_ : Nat) : Int)) + 3).toNat))).1).map ItemV.cells)), vi ((((decodeM c h x.dev (x.bytes.extract ((3 * ((k1_ : Nat) : Int)).toNat) ((IntKind.i64.wrap (3 * ((k1_ : Nat) : Int)) + 3).toNat))).1).length : Nat) : Int), vb false, vb false, vb false, .rv (.sl 7 (((decodeM c h x.dev (x.bytes.extract ((3 * ((k1_ : Nat) : Int)).toNat) ((IntKind.i64.wrap (3 * ((k1_ : Nat) : Int)) + 3).toNat))).1).map ItemV.cells)), .rv (.ptr (ItemV.cells e1_)), .agg (avs (ItemV.cells e1_)), .rv (.sl 7 (((decodeM c h x.dev x.bytes).1).map ItemV.cells)), vi ((k1_ : Nat) : Int), .rv (.ptr (ItemV.cells e2_)), .agg (avs (ItemV.cells e2_)), vb false, vb false, vb false, .rv (.sl 7 (((decodeM c h x.dev x.bytes).1).map ItemV.cells)), vi ((k1_ : Nat) : Int), .rv (.ptr (ItemV.cells e2_)), .rv (.ptr (ItemV.cells e2_)), .rv (.ptr (ItemV.cells e2_)), vi e2_.key.dev, .ptr 2 0, vi x.dev, vb (e2_.key.dev != x.dev), vb (e2_.key.dev != x.dev)] 122 [(3, .ptr 0 0), (4, .ptr 1 0), (5, .ptr 2 0), (7, .rv (.sl 7 (((decodeM c h x.dev x.bytes).1).map ItemV.cells))), (9, vi ((k1_ : Nat) : Int)), (98, vb (e2_.key.dev != x.dev))] [(0, .box 24 (avs (Codec.cells c))), (1, .box 28 (avs (Home.cells h))), (2, .box 34 (avs (Raw23.cells x)))] 3 ?_ ?_
          ·
           refine DSteps.cons (DStep.va) ?_
           refine DSteps.cons ((DStep.val (v := vb (((decodeM c h x.dev (x.bytes.extract ((3 * ((k1_ : Nat) : Int)).toNat) ((IntKind.i64.wrap (3 * ((k1_ : Nat) : Int)) + 3).toNat))).2) != 0)) (by kernel_rfl) (by kernel_rfl)).cast (congrArg vb h31)) ?_
           refine DSteps.cons (DStep.va) ?_
           refine DSteps.cons (DStep.va) ?_
           refine DSteps.cons (DStep.vs (by kernel_rfl) (R_lenM ItemV.cells ((decodeM c h x.dev (x.bytes.extract ((3 * ((k1_ : Nat) : Int)).toNat) ((IntKind.i64.wrap (3 * ((k1_ : Nat) : Int)) + 3).toNat))).1) 7 rfl (by kernel_rfl) (by kernel_rfl))) ?_
           refine DSteps.cons ((DStep.val (v := vb (((((decodeM c h x.dev (x.bytes.extract ((3 * ((k1_ : Nat) : Int)).toNat) ((IntKind.i64.wrap (3 * ((k1_ : Nat) : Int)) + 3).toNat))).1).length : Nat) : Int) != 1)) (by kernel_rfl) (by kernel_rfl)).cast (congrArg vb h32)) ?_
           refine DSteps.cons (DStep.va) ?_
           refine DSteps.cons (DStep.va) ?_
           refine DSteps.cons (DStep.va) ?_
           refine DSteps.cons (DStep.vs (by kernel_rfl) (R_indexAddrM ItemV.cells ((decodeM c h x.dev (x.bytes.extract ((3 * ((k1_ : Nat) : Int)).toNat) ((IntKind.i64.wrap (3 * ((k1_ : Nat) : Int)) + 3).toNat))).1) 7 0 rfl (by kernel_rfl) (by kernel_rfl) (by kernel_rfl) he1_)) ?_
           refine DSteps.cons (DStep.va) ?_
           refine DSteps.cons (DStep.va) ?_
           refine DSteps.cons (DStep.va) ?_
           refine DSteps.cons (DStep.vs (by kernel_rfl) (R_indexAddrM ItemV.cells ((decodeM c h x.dev x.bytes).1) 7 k1_ rfl (by kernel_rfl) (by kernel_rfl) (by kernel_rfl) he2_)) ?_
           refine DSteps.cons (DStep.va) ?_
           refine DSteps.cons ((DStep.val (v := vb (!(((e1_.key.dev == e2_.key.dev) && (beqS e1_.key.cluster e2_.key.cluster && (beqS e1_.key.attr e2_.key.attr && true))) && (((e1_.value.kind == e2_.value.kind) && ((e1_.value.n == e2_.value.n) && (beqS e1_.value.s e2_.value.s && true))) && ((e1_.version == e2_.version) && true))))) (by kernel_rfl) (by kernel_rfl)).cast (congrArg vb h33)) ?_
           refine DSteps.cons (DStep.va) ?_
           refine DSteps.cons (DStep.va) ?_
           refine DSteps.cons (DStep.va) ?_
           refine DSteps.cons (DStep.va) ?_
           refine DSteps.cons (DStep.vs (by kernel_rfl) (R_indexAddrM ItemV.cells ((decodeM c h x.dev x.bytes).1) 7 k1_ rfl (by kernel_rfl) (by kernel_rfl) (by kernel_rfl) he2_)) ?_
           refine DSteps.cons (DStep.va) ?_
           refine DSteps.cons (DStep.va) ?_
           refine DSteps.cons (DStep.va) ?_
           refine DSteps.cons (DStep.va) ?_
           refine DSteps.cons (DStep.va) ?_
           refine DSteps.cons (DStep.va) ?_
           refine DSteps.cons (DStep.va) ?_
           exact DSteps.nl
          refine AWp.cnd ((e2_.key.dev != x.dev)) (fun h34 => ?_) (fun h34 => ?_)
          ·
           refine AWp.hz [.run 1] 122 [(6, vb false)] [] 3 ?_
           refine AWp.ret ?_
           have hL1_ : lPartsM_L1 c h x = some false := scanN_some hs1_ (by omega) (by unfold lPartsM_B1; (try simp only [he1_]); (try simp only [he2_]); (try rw [h9]); (try rw [h31]); (try rw [h32]); (try rw [h33]); (try rw [h34]); first | done | kernel_rfl)
           exact leafR (r := vb false) (by unfold lPartsM; (try rw [h2]); (try rw [h3]); (try rw [h7]); (try rw [hL1_]); first | done | kernel_rfl)
          ·
           refine AWp.skip ?_
           refine AWp.seq ?_
           refine AWp.cut (fuel := 0) (m := [true, true, true, true, true, true, true, true, true, true, true, true, true]) (s := Z 122 [(3, .ptr 0 0), (4, .ptr 1 0), (5, .ptr 2 0), (7, .rv (.sl 7 (((decodeM c h x.dev x.bytes).1).map ItemV.cells))), (9, vi ((k1_ : Nat) : Int)), (12, .ptr 3 0), (13, vb ((findM h e2_.key).2))] [(0, .box 24 (avs (Codec.cells c))), (1, .box 28 (avs (Home.cells h))), (2, .box 34 (avs (Raw23.cells x))), (3, .box 51 (avs (Attr.cells ((findM h e2_.key).1))))] 4) (AD.done ?_) (fun hd35 => ?_)
           ·
            refine AWp.split (!((findM h e2_.key).2)) (fun h36 => ?_) (fun h36 => ?_)
            ·
             refine AWp.dz [vb ((findM h e2_.key).2), vb true, vb true, .tuple [], .tuple [], .tuple [], .tuple [], .tuple [], .tuple [], .tuple [], .tuple [], vb true] 122 [(3, .ptr 0 0), (4, .ptr 1 0), (5, .ptr 2 0), (7, .rv (.sl 7 (((decodeM c h x.dev x.bytes).1).map ItemV.cells))), (9, vi ((k1_ : Nat) : Int)), (120, vb true)] [(0, .box 24 (avs (Codec.cells c))), (1, .box 28 (avs (Home.cells h))), (2, .box 34 (avs (Raw23.cells x)))] 4 ?_ ?_
             ·
              refine DSteps.cons (DStep.va) ?_
              refine DSteps.cons ((DStep.val (v := vb (!((findM h e2_.key).2))) (by kernel_rfl) (by kernel_rfl)).cast (congrArg vb h36)) ?_
              refine DSteps.cons (DStep.va) ?_
              refine DSteps.cons (DStep.skip (by kernel_rfl)) ?_
              refine DSteps.cons (DStep.skip (by kernel_rfl)) ?_
              refine DSteps.cons (DStep.skip (by kernel_rfl)) ?_
              refine DSteps.cons (DStep.skip (by kernel_rfl)) ?_
              refine DSteps.cons (DStep.skip (by kernel_rfl)) ?_
              refine DSteps.cons (DStep.skip (by kernel_rfl)) ?_
              refine DSteps.cons (DStep.skip (by kernel_rfl)) ?_
              refine DSteps.cons (DStep.skip (by kernel_rfl)) ?_
              refine DSteps.cons (DStep.va) ?_
              exact DSteps.nl
             refine AWp.cndT ?_
             refine AWp.hz [.run 1] 122 [(6, vb false)] [] 4 ?_
             refine AWp.ret ?_
             have hL1_ : lPartsM_L1 c h x = some false := scanN_some hs1_ (by omega) (by unfold lPartsM_B1; (try simp only [he1_]); (try simp only [he2_]); (try rw [h9]); (try rw [h31]); (try rw [h32]); (try rw [h33]); (try rw [h34]); (try rw [h36]); first | done | kernel_rfl)
             exact leafR (r := vb false) (by unfold lPartsM; (try rw [h2]); (try rw [h3]); (try rw [h7]); (try rw [hL1_]); first | done | kernel_rfl)
            ·
             refine AWp.dz [vb ((findM h e2_.key).2), vb false, vb false, .agg (avs (Attr.cells ((findM h e2_.key).1))), .rv (.sl 7 (((decodeM c h x.dev x.bytes).1).map ItemV.cells)), vi ((k1_ : Nat) : Int), .rv (.ptr (ItemV.cells e2_)), .rv (.ptr [.v (.int .i64 e2_.value.kind), .v (.int .i64 e2_.value.n), .v (.string e2_.value.s), .v (.int .i64 e2_.version)]), .agg [vi e2_.value.kind, vi e2_.value.n, vs e2_.value.s], vi (fitsM ((findM h e2_.key).1) e2_.value), vb (fitsM ((findM h e2_.key).1) e2_.value != 0), vb (fitsM ((findM h e2_.key).1) e2_.value != 0)] 122 [(3, .ptr 0 0), (4, .ptr 1 0), (5, .ptr 2 0), (7, .rv (.sl 7 (((decodeM c h x.dev x.bytes).1).map ItemV.cells))), (9, vi ((k1_ : Nat) : Int)), (120, vb (fitsM ((findM h e2_.key).1) e2_.value != 0))] [(0, .box 24 (avs (Codec.cells c))), (1, .box 28 (avs (Home.cells h))), (2, .box 34 (avs (Raw23.cells x)))] 4 ?_ ?_
             ·
              refine DSteps.cons (DStep.va) ?_
              refine DSteps.cons ((DStep.val (v := vb (!((findM h e2_.key).2))) (by kernel_rfl) (by kernel_rfl)).cast (congrArg vb h36)) ?_
              refine DSteps.cons (DStep.va) ?_
              refine DSteps.cons (DStep.va) ?_
              refine DSteps.cons (DStep.va) ?_
              refine DSteps.cons (DStep.va) ?_
              refine DSteps.cons (DStep.vs (by kernel_rfl) (R_indexAddrM ItemV.cells ((decodeM c h x.dev x.bytes).1) 7 k1_ rfl (by kernel_rfl) (by kernel_rfl) (by kernel_rfl) he2_)) ?_
              refine DSteps.cons (DStep.va) ?_
              refine DSteps.cons (DStep.va) ?_
              refine DSteps.cons (DStep.call rfl (by kernel_rfl) (by kernel_rfl) (by kernel_rfl) (args := [.agg (avs (Attr.cells ((findM h e2_.key).1))), .agg [vi e2_.value.kind, vi e2_.value.n, vs e2_.value.s]]) (by kernel_rfl) (by kernel_rfl) (fitsM_ok ((findM h e2_.key).1) e2_.value) (by kernel_rfl) (Nat.le_of_ble_eq_true (by kernel_rfl))) ?_
              refine DSteps.cons (DStep.va) ?_
              refine DSteps.cons (DStep.va) ?_
              exact DSteps.nl
             refine AWp.cnd ((fitsM ((findM h e2_.key).1) e2_.value != 0)) (fun h37 => ?_) (fun h37 => ?_)
             ·
              refine AWp.hz [.run 1] 122 [(6, vb false)] [] 4 ?_
              refine AWp.ret ?_
              have hL1_ : lPartsM_L1 c h x = some false := scanN_some hs1_ (by omega) (by unfold lPartsM_B1; (try simp only [he1_]); (try simp only [he2_]); (try rw [h9]); (try rw [h31]); (try rw [h32]); (try rw [h33]); (try rw [h34]); (try rw [h36]); (try rw [h37]); first | done | kernel_rfl)
              exact leafR (r := vb false) (by unfold lPartsM; (try rw [h2]); (try rw [h3]); (try rw [h7]); (try rw [hL1_]); first | done | kernel_rfl)
             ·
              refine AWp.skip ?_
              refine AWp.he [.run 1, .cast (vi (IntKind.i64.wrap (((k1_ : Nat) : Int) + 1))) (vi ((k1_ + 1 : Nat) : Int)) (congrArg vi (wrap_nat (by omega))), .run 1] 122 [(3, .ptr 0 0), (4, .ptr 1 0), (5, .ptr 2 0), (7, .rv (.sl 7 (((decodeM c h x.dev x.bytes).1).map ItemV.cells))), (9, vi ((k1_ + 1 : Nat) : Int))] [(0, .box 24 (avs (Codec.cells c))), (1, .box 28 (avs (Home.cells h))), (2, .box 34 (avs (Raw23.cells x)))] 4 ?_
              exact ⟨k1_ + 1, ⟨by omega, scanN_none hs1_ (by omega) (by unfold lPartsM_B1; (try simp only [he1_]); (try simp only [he2_]); (try rw [h9]); (try rw [h31]); (try rw [h32]); (try rw [h33]); (try rw [h34]); (try rw [h36]); (try rw [h37]); first | done | kernel_rfl)⟩, by omega, leG⟩
           refine AWp.cut (fuel := 1) (m := [true, true, true, true, true, true, true, true, true, true, true, true, false]) (s := Z 122 [(3, .ptr 0 0), (4, .ptr 1 0), (5, .ptr 2 0), (7, .rv (.sl 7 (((decodeM c h x.dev x.bytes).1).map ItemV.cells))), (9, vi ((k1_ : Nat) : Int)), (12, .ptr 3 0), (108, vb ((findM h e2_.key).2))] [(0, .box 24 (avs (Codec.cells c))), (1, .box 28 (avs (Home.cells h))), (2, .box 34 (avs (Raw23.cells x))), (3, .box 51 (avs (Attr.cells ((findM h e2_.key).1))))] 4) (AD.tk 12 _ _ _ _ hd35) (fun hd38 => ?_)
           refine AWp.cutK (wr := [false, false, false, false, false, false, false, false, false, false, false, true, false]) (fuel := 2) (m := [true, true, true, true, true, true, true, true, true, true, true, false, false]) (s := Z 122 [(3, .ptr 0 0), (4, .ptr 1 0), (5, .ptr 2 0), (7, .rv (.sl 7 (((decodeM c h x.dev x.bytes).1).map ItemV.cells))), (9, vi ((k1_ : Nat) : Int)), (12, .ptr 3 0), (107, .agg (avs (Attr.cells ((findM h e2_.key).1)))), (108, vb ((findM h e2_.key).2))] [(0, .box 24 (avs (Codec.cells c))), (1, .box 28 (avs (Home.cells h))), (2, .box 34 (avs (Raw23.cells x))), (3, .box 51 [vs (⟨#[]⟩), vi 0, vi 0, vi 0, .rv (.v (.slice none 0 0)), vb false, vb false])] 4) (KD.step 11 [] (KDs.w _ rfl rfl (AOps.he [.run 1] _ _ _ _ ⟨rfl, rfl⟩) hd38 (KDs.nil))) (fun hd39 => ?_)
           refine AWp.cut (fuel := 2) (m := [true, true, true, true, true, true, true, true, true, false, true, true, false]) (s := Z 122 [(3, .ptr 0 0), (4, .ptr 1 0), (5, .ptr 2 0), (7, .rv (.sl 7 (((decodeM c h x.dev x.bytes).1).map ItemV.cells))), (9, vi ((k1_ : Nat) : Int)), (12, .ptr 3 0), (99, .tuple [.agg (avs (Attr.cells ((findM h e2_.key).1))), vb ((findM h e2_.key).2)])] [(0, .box 24 (avs (Codec.cells c))), (1, .box 28 (avs (Home.cells h))), (2, .box 34 (avs (Raw23.cells x))), (3, .box 51 (avs (Attr.cells ((findM h e2_.key).1))))] 4) (AD.tkV 9 _ _ _ _ hd38) (fun hd40 => ?_)
           refine AWp.cutK (wr := [false, false, false, false, false, false, false, false, false, false, false, true, false]) (fuel := 3) (m := [true, true, true, true, true, true, true, true, true, true, false, false, false]) (s := Z 122 [(3, .ptr 0 0), (4, .ptr 1 0), (5, .ptr 2 0), (7, .rv (.sl 7 (((decodeM c h x.dev x.bytes).1).map ItemV.cells))), (9, vi ((k1_ : Nat) : Int)), (107, .agg (avs (Attr.cells ((findM h e2_.key).1)))), (108, vb ((findM h e2_.key).2))] [(0, .box 24 (avs (Codec.cells c))), (1, .box 28 (avs (Home.cells h))), (2, .box 34 (avs (Raw23.cells x)))] 3) (KD.step 10 [] (KDs.k _ rfl rfl (KOp.run _ _ _ _) hd39 (KDs.nil))) (fun hd41 => ?_)
           refine AWp.cutK (wr := [false, false, false, false, false, false, false, false, false, false, false, true, false]) (fuel := 3) (m := [true, true, true, true, true, true, true, true, true, false, true, false, false]) (s := Z 122 [(3, .ptr 0 0), (4, .ptr 1 0), (5, .ptr 2 0), (7, .rv (.sl 7 (((decodeM c h x.dev x.bytes).1).map ItemV.cells))), (9, vi ((k1_ : Nat) : Int)), (12, .ptr 3 0), (99, .tuple [.agg (avs (Attr.cells ((findM h e2_.key).1))), vb ((findM h e2_.key).2)]), (107, .agg (avs (Attr.cells ((findM h e2_.key).1))))] [(0, .box 24 (avs (Codec.cells c))), (1, .box 28 (avs (Home.cells h))), (2, .box 34 (avs (Raw23.cells x))), (3, .box 51 [vs (⟨#[]⟩), vi 0, vi 0, vi 0, .rv (.v (.slice none 0 0)), vb false, vb false])] 4) (KD.step 9 [11] (KDs.k _ rfl rfl (KOp.run _ _ _ _) hd39 (KDs.w _ rfl rfl (AOps.he [.run 1] _ _ _ _ ⟨rfl, rfl⟩) hd40 (KDs.nil)))) (fun hd42 => ?_)
           refine AWp.cutK (wr := [false, false, false, false, false, false, false, false, false, false, false, true, false]) (fuel := 4) (m := [true, true, true, true, true, true, true, true, true, false, false, false, false]) (s := Z 122 [(3, .ptr 0 0), (4, .ptr 1 0), (5, .ptr 2 0), (7, .rv (.sl 7 (((decodeM c h x.dev x.bytes).1).map ItemV.cells))), (9, vi ((k1_ : Nat) : Int)), (99, .tuple [.agg (avs (Attr.cells ((findM h e2_.key).1))), vb ((findM h e2_.key).2)]), (107, .agg (avs (Attr.cells ((findM h e2_.key).1))))] [(0, .box 24 (avs (Codec.cells c))), (1, .box 28 (avs (Home.cells h))), (2, .box 34 (avs (Raw23.cells x)))] 3) (KD.step 9 [10] (KDs.k _ rfl rfl (KOp.run _ _ _ _) hd41 (KDs.k _ rfl rfl (KOp.run _ _ _ _) hd42 (KDs.nil)))) (fun hd43 => ?_)
           refine AWp.cutK (wr := [false, false, false, false, false, false, false, false, false, false, false, true, false]) (fuel := 4) (m := [true, true, true, true, true, true, true, true, false, false, true, false, false]) (s := Z 122 [(3, .ptr 0 0), (4, .ptr 1 0), (5, .ptr 2 0), (7, .rv (.sl 7 (((decodeM c h x.dev x.bytes).1).map ItemV.cells))), (9, vi ((k1_ : Nat) : Int)), (12, .ptr 3 0), (99, .tuple [.agg (avs (Attr.cells ((findM h e2_.key).1))), vb ((findM h e2_.key).2)])] [(0, .box 24 (avs (Codec.cells c))), (1, .box 28 (avs (Home.cells h))), (2, .box 34 (avs (Raw23.cells x))), (3, .box 51 [vs (⟨#[]⟩), vi 0, vi 0, vi 0, .rv (.v (.slice none 0 0)), vb false, vb false])] 4) (KD.tk 8 _ _ _ _ hd42) (fun hd44 => ?_)
           refine AWp.cutK (wr := [false, false, false, false, false, false, false, false, false, false, false, true, false]) (fuel := 5) (m := [true, true, true, true, true, true, true, true, false, false, false, false, false]) (s := Z 122 [(3, .ptr 0 0), (4, .ptr 1 0), (5, .ptr 2 0), (7, .rv (.sl 7 (((decodeM c h x.dev x.bytes).1).map ItemV.cells))), (9, vi ((k1_ : Nat) : Int)), (99, .tuple [.agg (avs (Attr.cells ((findM h e2_.key).1))), vb ((findM h e2_.key).2)])] [(0, .box 24 (avs (Codec.cells c))), (1, .box 28 (avs (Home.cells h))), (2, .box 34 (avs (Raw23.cells x)))] 3) (KD.tk 8 _ _ _ _ hd43) (fun hd45 => ?_)
           refine AWp.cutK (wr := [false, false, false, false, false, false, false, false, false, false, false, true, false]) (fuel := 5) (m := [true, true, true, true, true, true, true, false, false, false, true, false, false]) (s := Z 122 [(3, .ptr 0 0), (4, .ptr 1 0), (5, .ptr 2 0), (7, .rv (.sl 7 (((decodeM c h x.dev x.bytes).1).map ItemV.cells))), (9, vi ((k1_ : Nat) : Int)), (12, .ptr 3 0), (106, .tuple [.agg (avs (Attr.cells ((findM h e2_.key).1))), vb ((findM h e2_.key).2)])] [(0, .box 24 (avs (Codec.cells c))), (1, .box 28 (avs (Home.cells h))), (2, .box 34 (avs (Raw23.cells x))), (3, .box 51 [vs (⟨#[]⟩), vi 0, vi 0, vi 0, .rv (.v (.slice none 0 0)), vb false, vb false])] 4) (KD.tk 7 _ _ _ _ hd44) (fun hd46 => ?_)
           refine AWp.cutK (wr := [false, false, false, false, false, false, false, false, false, false, false, true, false]) (fuel := 6) (m := [true, true, true, true, true, true, true, false, false, false, false, false, false]) (s := Z 122 [(3, .ptr 0 0), (4, .ptr 1 0), (5, .ptr 2 0), (7, .rv (.sl 7 (((decodeM c h x.dev x.bytes).1).map ItemV.cells))), (9, vi ((k1_ : Nat) : Int)), (106, .tuple [.agg (avs (Attr.cells ((findM h e2_.key).1))), vb ((findM h e2_.key).2)])] [(0, .box 24 (avs (Codec.cells c))), (1, .box 28 (avs (Home.cells h))), (2, .box 34 (avs (Raw23.cells x)))] 3) (KD.tk 7 _ _ _ _ hd45) (fun hd47 => ?_)
           refine AWp.cutK (wr := [false, false, false, false, false, false, false, false, false, false, false, true, false]) (fuel := 6) (m := [true, true, true, true, true, true, false, false, false, false, true, false, false]) (s := Z 122 [(3, .ptr 0 0), (4, .ptr 1 0), (5, .ptr 2 0), (7, .rv (.sl 7 (((decodeM c h x.dev x.bytes).1).map ItemV.cells))), (9, vi ((k1_ : Nat) : Int)), (12, .ptr 3 0), (100, .agg (avs (Home.cells h))), (105, .agg [vi e2_.key.dev, vs e2_.key.cluster, vs e2_.key.attr])] [(0, .box 24 (avs (Codec.cells c))), (1, .box 28 (avs (Home.cells h))), (2, .box 34 (avs (Raw23.cells x))), (3, .box 51 [vs (⟨#[]⟩), vi 0, vi 0, vi 0, .rv (.v (.slice none 0 0)), vb false, vb false])] 4) (KD.step 6 [] (KDs.k _ rfl rfl (KOp.call 17 [.agg (avs (Home.cells h)), .agg [vi e2_.key.dev, vs e2_.key.cluster, vs e2_.key.attr]] (.tuple [.agg (avs (Attr.cells ((findM h e2_.key).1))), vb ((findM h e2_.key).2)]) [] 0 (findM_ok h e2_.key) _ _ _ _) hd46 (KDs.nil))) (fun hd48 => ?_)
           refine AWp.cutK (wr := [false, false, false, false, false, false, false, false, false, false, false, true, false]) (fuel := 7) (m := [true, true, true, true, true, true, false, false, false, false, false, false, false]) (s := Z 122 [(3, .ptr 0 0), (4, .ptr 1 0), (5, .ptr 2 0), (7, .rv (.sl 7 (((decodeM c h x.dev x.bytes).1).map ItemV.cells))), (9, vi ((k1_ : Nat) : Int)), (100, .agg (avs (Home.cells h))), (105, .agg [vi e2_.key.dev, vs e2_.key.cluster, vs e2_.key.attr])] [(0, .box 24 (avs (Codec.cells c))), (1, .box 28 (avs (Home.cells h))), (2, .box 34 (avs (Raw23.cells x)))] 3) (KD.step 6 [10] (KDs.k _ rfl rfl (KOp.call 17 [.agg (avs (Home.cells h)), .agg [vi e2_.key.dev, vs e2_.key.cluster, vs e2_.key.attr]] (.tuple [.agg (avs (Attr.cells ((findM h e2_.key).1))), vb ((findM h e2_.key).2)]) [] 0 (findM_ok h e2_.key) _ _ _ _) hd47 (KDs.k _ rfl rfl (KOp.run _ _ _ _) hd48 (KDs.nil)))) (fun hd49 => ?_)
           refine AWp.cutK (wr := [false, false, false, false, false, false, false, false, false, false, false, true, false]) (fuel := 8) (m := [true, true, true, true, true, false, false, false, false, false, false, false, false]) (s := Z 122 [(3, .ptr 0 0), (4, .ptr 1 0), (5, .ptr 2 0), (7, .rv (.sl 7 (((decodeM c h x.dev x.bytes).1).map ItemV.cells))), (9, vi ((k1_ : Nat) : Int)), (100, .agg (avs (Home.cells h))), (104, .rv (.ptr (ItemV.cells e2_)))] [(0, .box 24 (avs (Codec.cells c))), (1, .box 28 (avs (Home.cells h))), (2, .box 34 (avs (Raw23.cells x)))] 3) (KD.tk 5 _ _ _ _ hd49) (fun hd50 => ?_)
           refine AWp.cutK (wr := [false, false, false, false, false, false, false, false, false, false, false, true, false]) (fuel := 9) (m := [true, true, true, true, false, false, false, false, false, false, false, false, false]) (s := Z 122 [(3, .ptr 0 0), (4, .ptr 1 0), (5, .ptr 2 0), (7, .rv (.sl 7 (((decodeM c h x.dev x.bytes).1).map ItemV.cells))), (9, vi ((k1_ : Nat) : Int)), (100, .agg (avs (Home.cells h))), (103, .rv (.ptr (ItemV.cells e2_)))] [(0, .box 24 (avs (Codec.cells c))), (1, .box 28 (avs (Home.cells h))), (2, .box 34 (avs (Raw23.cells x)))] 3) (KD.tk 4 _ _ _ _ hd50) (fun hd51 => ?_)
           refine AWp.cutK (wr := [false, false, false, false, false, false, false, false, false, false, false, true, false]) (fuel := 10) (m := [true, true, true, false, false, false, false, false, false, false, false, false, false]) (s := Z 122 [(3, .ptr 0 0), (4, .ptr 1 0), (5, .ptr 2 0), (7, .rv (.sl 7 (((decodeM c h x.dev x.bytes).1).map ItemV.cells))), (9, vi ((k1_ : Nat) : Int)), (100, .agg (avs (Home.cells h))), (101, .rv (.sl 7 (((decodeM c h x.dev x.bytes).1).map ItemV.cells))), (102, vi ((k1_ : Nat) : Int))] [(0, .box 24 (avs (Codec.cells c))), (1, .box 28 (avs (Home.cells h))), (2, .box 34 (avs (Raw23.cells x)))] 3) (KD.tkI 3 ItemV.cells ((decodeM c h x.dev x.bytes).1) 7 k1_ he2_ _ _ _ _ hd51) (fun hd52 => ?_)
           refine AWp.cutK (wr := [false, false, false, false, false, false, false, false, false, false, false, true, false]) (fuel := 11) (m := [true, true, false, false, false, false, false, false, false, false, false, false, false]) (s := Z 122 [(3, .ptr 0 0), (4, .ptr 1 0), (5, .ptr 2 0), (7, .rv (.sl 7 (((decodeM c h x.dev x.bytes).1).map ItemV.cells))), (9, vi ((k1_ : Nat) : Int)), (100, .agg (avs (Home.cells h))), (101, .rv (.sl 7 (((decodeM c h x.dev x.bytes).1).map ItemV.cells)))] [(0, .box 24 (avs (Codec.cells c))), (1, .box 28 (avs (Home.cells h))), (2, .box 34 (avs (Raw23.cells x)))] 3) (KD.tk 2 _ _ _ _ hd52) (fun hd53 => ?_)
           refine AWp.cutK (wr := [false, false, false, false, false, false, false, false, false, false, false, true, false]) (fuel := 12) (m := [true, false, false, false, false, false, false, false, false, false, false, false, false]) (s := Z 122 [(3, .ptr 0 0), (4, .ptr 1 0), (5, .ptr 2 0), (7, .rv (.sl 7 (((decodeM c h x.dev x.bytes).1).map ItemV.cells))), (9, vi ((k1_ : Nat) : Int)), (100, .agg (avs (Home.cells h)))] [(0, .box 24 (avs (Codec.cells c))), (1, .box 28 (avs (Home.cells h))), (2, .box 34 (avs (Raw23.cells x)))] 3) (KD.tk 1 _ _ _ _ hd53) (fun hd54 => ?_)
           refine AWp.cutK (wr := [false, false, false, false, false, false, false, false, false, false, false, true, false]) (fuel := 13) (m := [false, false, false, false, false, false, false, false, false, false, false, false, false]) (s := Z 122 [(3, .ptr 0 0), (4, .ptr 1 0), (5, .ptr 2 0), (7, .rv (.sl 7 (((decodeM c h x.dev x.bytes).1).map ItemV.cells))), (9, vi ((k1_ : Nat) : Int))] [(0, .box 24 (avs (Codec.cells c))), (1, .box 28 (avs (Home.cells h))), (2, .box 34 (avs (Raw23.cells x)))] 3) (KD.tk 0 _ _ _ _ hd54) (fun hd55 => ?_)
           exact AWp.drawnA 13 leZ (KD.ad hd55)
      refine AWp.cut (fuel := 1) (m := [true, true, true, true, true, true, true, true, true, true, true, true, true, true, true, true, true, false]) (s := Z 122 [(3, .ptr 0 0), (4, .ptr 1 0), (5, .ptr 2 0), (7, .rv (.sl 7 (((decodeM c h x.dev x.bytes).1).map ItemV.cells))), (9, vi ((k1_ : Nat) : Int)), (10, .rv (.sl 7 (((decodeM c h x.dev (x.bytes.extract ((3 * ((k1_ : Nat) : Int)).toNat) ((IntKind.i64.wrap (3 * ((k1_ : Nat) : Int)) + 3).toNat))).1).map ItemV.cells))), (70, vi ((decodeM c h x.dev (x.bytes.extract ((3 * ((k1_ : Nat) : Int)).toNat) ((IntKind.i64.wrap (3 * ((k1_ : Nat) : Int)) + 3).toNat))).2))] [(0, .box 24 (avs (Codec.cells c))), (1, .box 28 (avs (Home.cells h))), (2, .box 34 (avs (Raw23.cells x)))] 3) (AD.tk 17 _ _ _ _ hd30) (fun hd56 => ?_)
      refine AWp.cut (fuel := 2) (m := [true, true, true, true, true, true, true, true, true, true, true, true, true, true, true, true, false, false]) (s := Z 122 [(3, .ptr 0 0), (4, .ptr 1 0), (5, .ptr 2 0), (7, .rv (.sl 7 (((decodeM c h x.dev x.bytes).1).map ItemV.cells))), (9, vi ((k1_ : Nat) : Int)), (69, .rv (.sl 7 (((decodeM c h x.dev (x.bytes.extract ((3 * ((k1_ : Nat) : Int)).toNat) ((IntKind.i64.wrap (3 * ((k1_ : Nat) : Int)) + 3).toNat))).1).map ItemV.cells))), (70, vi ((decodeM c h x.dev (x.bytes.extract ((3 * ((k1_ : Nat) : Int)).toNat) ((IntKind.i64.wrap (3 * ((k1_ : Nat) : Int)) + 3).toNat))).2))] [(0, .box 24 (avs (Codec.cells c))), (1, .box 28 (avs (Home.cells h))), (2, .box 34 (avs (Raw23.cells x)))] 3) (AD.tk 16 _ _ _ _ hd56) (fun hd57 => ?_)
      refine AWp.cut (fuel := 3) (m := [true, true, true, true, true, true, true, true, true, true, true, true, true, true, true, false, false, false]) (s := Z 122 [(3, .ptr 0 0), (4, .ptr 1 0), (5, .ptr 2 0), (7, .rv (.sl 7 (((decodeM c h x.dev x.bytes).1).map ItemV.cells))), (9, vi ((k1_ : Nat) : Int)), (55, .tuple [.rv (.sl 7 (((decodeM c h x.dev (x.bytes.extract ((3 * ((k1_ : Nat) : Int)).toNat) ((IntKind.i64.wrap (3 * ((k1_ : Nat) : Int)) + 3).toNat))).1).map ItemV.cells)), vi ((decodeM c h x.dev (x.bytes.extract ((3 * ((k1_ : Nat) : Int)).toNat) ((IntKind.i64.wrap (3 * ((k1_ : Nat) : Int)) + 3).toNat))).2)]), (69, .rv (.sl 7 (((decodeM c h x.dev (x.bytes.extract ((3 * ((k1_ : Nat) : Int)).toNat) ((IntKind.i64.wrap (3 * ((k1_ : Nat) : Int)) + 3).toNat))).1).map ItemV.cells)))] [(0, .box 24 (avs (Codec.cells c))), (1, .box 28 (avs (Home.cells h))), (2, .box 34 (avs (Raw23.cells x)))] 3) (AD.tkV 15 _ _ _ _ hd57) (fun hd58 => ?_)
      refine AWp.cut (fuel := 4) (m := [true, true, true, true, true, true, true, true, true, true, true, true, true, true, false, false, false, false]) (s := Z 122 [(3, .ptr 0 0), (4, .ptr 1 0), (5, .ptr 2 0), (7, .rv (.sl 7 (((decodeM c h x.dev x.bytes).1).map ItemV.cells))), (9, vi ((k1_ : Nat) : Int)), (55, .tuple [.rv (.sl 7 (((decodeM c h x.dev (x.bytes.extract ((3 * ((k1_ : Nat) : Int)).toNat) ((IntKind.i64.wrap (3 * ((k1_ : Nat) : Int)) + 3).toNat))).1).map ItemV.cells)), vi ((decodeM c h x.dev (x.bytes.extract ((3 * ((k1_ : Nat) : Int)).toNat) ((IntKind.i64.wrap (3 * ((k1_ : Nat) : Int)) + 3).toNat))).2)])] [(0, .box 24 (avs (Codec.cells c))), (1, .box 28 (avs (Home.cells h))), (2, .box 34 (avs (Raw23.cells x)))] 3) (AD.tkV 14 _ _ _ _ hd58) (fun hd59 => ?_)
      refine AWp.cut (fuel := 5) (m := [true, true, true, true, true, true, true, true, true, true, true, true, true, false, false, false, false, false]) (s := Z 122 [(3, .ptr 0 0), (4, .ptr 1 0), (5, .ptr 2 0), (7, .rv (.sl 7 (((decodeM c h x.dev x.bytes).1).map ItemV.cells))), (9, vi ((k1_ : Nat) : Int)), (68, .tuple [.rv (.sl 7 (((decodeM c h x.dev (x.bytes.extract ((3 * ((k1_ : Nat) : Int)).toNat) ((IntKind.i64.wrap (3 * ((k1_ : Nat) : Int)) + 3).toNat))).1).map ItemV.cells)), vi ((decodeM c h x.dev (x.bytes.extract ((3 * ((k1_ : Nat) : Int)).toNat) ((IntKind.i64.wrap (3 * ((k1_ : Nat) : Int)) + 3).toNat))).2)])] [(0, .box 24 (avs (Codec.cells c))), (1, .box 28 (avs (Home.cells h))), (2, .box 34 (avs (Raw23.cells x)))] 3) (AD.tk 13 _ _ _ _ hd59) (fun hd60 => ?_)
      refine AWp.cut (fuel := 6) (m := [true, true, true, true, true, true, true, true, true, true, true, true, false, false, false, false, false, false]) (s := Z 122 [(3, .ptr 0 0), (4, .ptr 1 0), (5, .ptr 2 0), (7, .rv (.sl 7 (((decodeM c h x.dev x.bytes).1).map ItemV.cells))), (9, vi ((k1_ : Nat) : Int)), (56, .agg (avs (Codec.cells c))), (57, .agg (avs (Home.cells h))), (59, vi x.dev), (67, vs (x.bytes.extract ((3 * ((k1_ : Nat) : Int)).toNat) ((IntKind.i64.wrap (3 * ((k1_ : Nat) : Int)) + 3).toNat)))] [(0, .box 24 (avs (Codec.cells c))), (1, .box 28 (avs (Home.cells h))), (2, .box 34 (avs (Raw23.cells x)))] 3) (AD.step 12 [] (ADs.cons _ rfl (AOps.he [.call 12 [.agg (avs (Codec.cells c)), .agg (avs (Home.cells h)), vi x.dev, vs (x.bytes.extract ((3 * ((k1_ : Nat) : Int)).toNat) ((IntKind.i64.wrap (3 * ((k1_ : Nat) : Int)) + 3).toNat))] (.tuple [.rv (.sl 7 (((decodeM c h x.dev (x.bytes.extract ((3 * ((k1_ : Nat) : Int)).toNat) ((IntKind.i64.wrap (3 * ((k1_ : Nat) : Int)) + 3).toNat))).1).map ItemV.cells)), vi ((decodeM c h x.dev (x.bytes.extract ((3 * ((k1_ : Nat) : Int)).toNat) ((IntKind.i64.wrap (3 * ((k1_ : Nat) : Int)) + 3).toNat))).2)]) [] 0 (decodeM_ok c h x.dev (x.bytes.extract ((3 * ((k1_ : Nat) : Int)).toNat) ((IntKind.i64.wrap (3 * ((k1_ : Nat) : Int)) + 3).toNat)) (by first | omega | (simp only [ByteArray.size_extract]; omega)))] _ _ _ _ ⟨rfl, rfl⟩) hd60 (ADs.nil))) (fun hd61 => ?_)
      refine AWp.cut (fuel := 7) (m := [true, true, true, true, true, true, true, true, true, true, true, false, false, false, false, false, false, false]) (s := Z 122 [(3, .ptr 0 0), (4, .ptr 1 0), (5, .ptr 2 0), (7, .rv (.sl 7 (((decodeM c h x.dev x.bytes).1).map ItemV.cells))), (9, vi ((k1_ : Nat) : Int)), (56, .agg (avs (Codec.cells c))), (57, .agg (avs (Home.cells h))), (59, vi x.dev), (61, vs x.bytes), (63, vi (IntKind.i64.wrap (3 * ((k1_ : Nat) : Int)))), (66, vi (IntKind.i64.wrap (IntKind.i64.wrap (3 * ((k1_ : Nat) : Int)) + 3)))] [(0, .box 24 (avs (Codec.cells c))), (1, .box 28 (avs (Home.cells h))), (2, .box 34 (avs (Raw23.cells x)))] 3) (AD.step 11 [] (ADs.cons _ rfl ?_ hd61 (ADs.nil))) (fun hd62 => ?_)
      ·
       have ht28 : IntKind.i64.wrap (3 * ((k1_ : Nat) : Int)) = (((3 * ((k1_ : Nat) : Int)).toNat : Nat) : Int) := by rw [wrap64_of _ (by omega) (by omega)]; exact (Int.toNat_of_nonneg (by omega)).symm
       have ht29 : IntKind.i64.wrap (IntKind.i64.wrap (3 * ((k1_ : Nat) : Int)) + 3) = (((IntKind.i64.wrap (3 * ((k1_ : Nat) : Int)) + 3).toNat : Nat) : Int) := by rw [wrap64_of _ (by omega) (by omega)]; exact (Int.toNat_of_nonneg (by omega)).symm
       refine AOps.he [.slot 63 (vi (IntKind.i64.wrap (3 * ((k1_ : Nat) : Int)))) (vi (((3 * ((k1_ : Nat) : Int)).toNat : Nat) : Int)) (congrArg vi ht28), .slot 66 (vi (IntKind.i64.wrap (IntKind.i64.wrap (3 * ((k1_ : Nat) : Int)) + 3))) (vi (((IntKind.i64.wrap (3 * ((k1_ : Nat) : Int)) + 3).toNat : Nat) : Int)) (congrArg vi ht29), .slcS x.bytes (some ((3 * ((k1_ : Nat) : Int)).toNat)) (some ((IntKind.i64.wrap (3 * ((k1_ : Nat) : Int)) + 3).toNat)) (by first | omega | (simp only [Option.getD_some, Option.getD_none]; omega)) (by first | omega | (simp only [Option.getD_some, Option.getD_none]; omega))] 122 [(3, .ptr 0 0), (4, .ptr 1 0), (5, .ptr 2 0), (7, .rv (.sl 7 (((decodeM c h x.dev x.bytes).1).map ItemV.cells))), (9, vi ((k1_ : Nat) : Int)), (56, .agg (avs (Codec.cells c))), (57, .agg (avs (Home.cells h))), (59, vi x.dev), (67, vs (x.bytes.extract ((3 * ((k1_ : Nat) : Int)).toNat) ((IntKind.i64.wrap (3 * ((k1_ : Nat) : Int)) + 3).toNat)))] [(0, .box 24 (avs (Codec.cells c))), (1, .box 28 (avs (Home.cells h))), (2, .box 34 (avs (Raw23.cells x)))] 3 ?_
       exact ⟨rfl, rfl⟩
      refine AWp.cut (fuel := 7) (m := [true, true, true, false, true, true, true, true, true, true, true, true, false, false, false, false, false, false]) (s := Z 122 [(3, .ptr 0 0), (4, .ptr 1 0), (5, .ptr 2 0), (7, .rv (.sl 7 (((decodeM c h x.dev x.bytes).1).map ItemV.cells))), (9, vi ((k1_ : Nat) : Int)), (56, .agg (avs (Codec.cells c))), (57, .agg (avs (Home.cells h))), (58, .ptr 2 0), (67, vs (x.bytes.extract ((3 * ((k1_ : Nat) : Int)).toNat) ((IntKind.i64.wrap (3 * ((k1_ : Nat) : Int)) + 3).toNat)))] [(0, .box 24 (avs (Codec.cells c))), (1, .box 28 (avs (Home.cells h))), (2, .box 34 (avs (Raw23.cells x)))] 3) (AD.step 3 [] (ADs.cons _ rfl (AOps.he [.run 1] _ _ _ _ ⟨rfl, rfl⟩) hd61 (ADs.nil))) (fun hd63 => ?_)
      refine AWp.cut (fuel := 7) (m := [true, false, true, true, true, true, true, true, true, true, true, true, false, false, false, false, false, false]) (s := Z 122 [(3, .ptr 0 0), (4, .ptr 1 0), (5, .ptr 2 0), (7, .rv (.sl 7 (((decodeM c h x.dev x.bytes).1).map ItemV.cells))), (9, vi ((k1_ : Nat) : Int)), (56, .agg (avs (Codec.cells c))), (59, vi x.dev), (67, vs (x.bytes.extract ((3 * ((k1_ : Nat) : Int)).toNat) ((IntKind.i64.wrap (3 * ((k1_ : Nat) : Int)) + 3).toNat)))] [(0, .box 24 (avs (Codec.cells c))), (1, .box 28 (avs (Home.cells h))), (2, .box 34 (avs (Raw23.cells x)))] 3) (AD.step 1 [] (ADs.cons _ rfl (AOps.he [.run 1] _ _ _ _ ⟨rfl, rfl⟩) hd61 (ADs.nil))) (fun hd64 => ?_)
      refine AWp.cut (fuel := 7) (m := [false, true, true, true, true, true, true, true, true, true, true, true, false, false, false, false, false, false]) (s := Z 122 [(3, .ptr 0 0), (4, .ptr 1 0), (5, .ptr 2 0), (7, .rv (.sl 7 (((decodeM c h x.dev x.bytes).1).map ItemV.cells))), (9, vi ((k1_ : Nat) : Int)), (57, .agg (avs (Home.cells h))), (59, vi x.dev), (67, vs (x.bytes.extract ((3 * ((k1_ : Nat) : Int)).toNat) ((IntKind.i64.wrap (3 * ((k1_ : Nat) : Int)) + 3).toNat)))] [(0, .box 24 (avs (Codec.cells c))), (1, .box 28 (avs (Home.cells h))), (2, .box 34 (avs (Raw23.cells x)))] 3) (AD.step 0 [] (ADs.cons _ rfl (AOps.he [.run 1] _ _ _ _ ⟨rfl, rfl⟩) hd61 (ADs.nil))) (fun hd65 => ?_)
      refine AWp.cut (fuel := 8) (m := [true, true, true, true, true, false, true, true, true, true, true, false, false, false, false, false, false, false]) (s := Z 122 [(3, .ptr 0 0), (4, .ptr 1 0), (5, .ptr 2 0), (7, .rv (.sl 7 (((decodeM c h x.dev x.bytes).1).map ItemV.cells))), (9, vi ((k1_ : Nat) : Int)), (56, .agg (avs (Codec.cells c))), (57, .agg (avs (Home.cells h))), (59, vi x.dev), (60, .ptr 2 1), (63, vi (IntKind.i64.wrap (3 * ((k1_ : Nat) : Int)))), (66, vi (IntKind.i64.wrap (IntKind.i64.wrap (3 * ((k1_ : Nat) : Int)) + 3)))] [(0, .box 24 (avs (Codec.cells c))), (1, .box 28 (avs (Home.cells h))), (2, .box 34 (avs (Raw23.cells x)))] 3) (AD.step 5 [] (ADs.cons _ rfl (AOps.he [.run 1] _ _ _ _ ⟨rfl, rfl⟩) hd62 (ADs.nil))) (fun hd66 => ?_)
      refine AWp.cut (fuel := 8) (m := [true, true, true, false, true, true, true, true, true, true, true, false, false, false, false, false, false, false]) (s := Z 122 [(3, .ptr 0 0), (4, .ptr 1 0), (5, .ptr 2 0), (7, .rv (.sl 7 (((decodeM c h x.dev x.bytes).1).map ItemV.cells))), (9, vi ((k1_ : Nat) : Int)), (56, .agg (avs (Codec.cells c))), (57, .agg (avs (Home.cells h))), (58, .ptr 2 0), (61, vs x.bytes), (63, vi (IntKind.i64.wrap (3 * ((k1_ : Nat) : Int)))), (66, vi (IntKind.i64.wrap (IntKind.i64.wrap (3 * ((k1_ : Nat) : Int)) + 3)))] [(0, .box 24 (avs (Codec.cells c))), (1, .box 28 (avs (Home.cells h))), (2, .box 34 (avs (Raw23.cells x)))] 3) (AD.step 3 [11] (ADs.cons _ rfl (AOps.he [.run 1] _ _ _ _ ⟨rfl, rfl⟩) hd62 (ADs.cons _ rfl ?_ hd63 (ADs.nil)))) (fun hd67 => ?_)
      ·
       have ht22 : IntKind.i64.wrap (3 * ((k1_ : Nat) : Int)) = (((3 * ((k1_ : Nat) : Int)).toNat : Nat) : Int) := by rw [wrap64_of _ (by omega) (by omega)]; exact (Int.toNat_of_nonneg (by omega)).symm
       have ht23 : IntKind.i64.wrap (IntKind.i64.wrap (3 * ((k1_ : Nat) : Int)) + 3) = (((IntKind.i64.wrap (3 * ((k1_ : Nat) : Int)) + 3).toNat : Nat) : Int) := by rw [wrap64_of _ (by omega) (by omega)]; exact (Int.toNat_of_nonneg (by omega)).symm
       refine AOps.he [.slot 63 (vi (IntKind.i64.wrap (3 * ((k1_ : Nat) : Int)))) (vi (((3 * ((k1_ : Nat) : Int)).toNat : Nat) : Int)) (congrArg vi ht22), .slot 66 (vi (IntKind.i64.wrap (IntKind.i64.wrap (3 * ((k1_ : Nat) : Int)) + 3))) (vi (((IntKind.i64.wrap (3 * ((k1_ : Nat) : Int)) + 3).toNat : Nat) : Int)) (congrArg vi ht23), .slcS x.bytes (some ((3 * ((k1_ : Nat) : Int)).toNat)) (some ((IntKind.i64.wrap (3 * ((k1_ : Nat) : Int)) + 3).toNat)) (by first | omega | (simp only [Option.getD_some, Option.getD_none]; omega)) (by first | omega | (simp only [Option.getD_some, Option.getD_none]; omega))] 122 [(3, .ptr 0 0), (4, .ptr 1 0), (5, .ptr 2 0), (7, .rv (.sl 7 (((decodeM c h x.dev x.bytes).1).map ItemV.cells))), (9, vi ((k1_ : Nat) : Int)), (56, .agg (avs (Codec.cells c))), (57, .agg (avs (Home.cells h))), (58, .ptr 2 0), (67, vs (x.bytes.extract ((3 * ((k1_ : Nat) : Int)).toNat) ((IntKind.i64.wrap (3 * ((k1_ : Nat) : Int)) + 3).toNat)))] [(0, .box 24 (avs (Codec.cells c))), (1, .box 28 (avs (Home.cells h))), (2, .box 34 (avs (Raw23.cells x)))] 3 ?_
       exact ⟨rfl, rfl⟩
      refine AWp.cut (fuel := 8) (m := [true, false, true, true, true, true, true, true, true, true, true, false, false, false, false, false, false, false]) (s := Z 122 [(3, .ptr 0 0), (4, .ptr 1 0), (5, .ptr 2 0), (7, .rv (.sl 7 (((decodeM c h x.dev x.bytes).1).map ItemV.cells))), (9, vi ((k1_ : Nat) : Int)), (56, .agg (avs (Codec.cells c))), (59, vi x.dev), (61, vs x.bytes), (63, vi (IntKind.i64.wrap (3 * ((k1_ : Nat) : Int)))), (66, vi (IntKind.i64.wrap (IntKind.i64.wrap (3 * ((k1_ : Nat) : Int)) + 3)))] [(0, .box 24 (avs (Codec.cells c))), (1, .box 28 (avs (Home.cells h))), (2, .box 34 (avs (Raw23.cells x)))] 3) (AD.step 1 [11] (ADs.cons _ rfl (AOps.he [.run 1] _ _ _ _ ⟨rfl, rfl⟩) hd62 (ADs.cons _ rfl ?_ hd64 (ADs.nil)))) (fun hd68 => ?_)
      ·
       have ht24 : IntKind.i64.wrap (3 * ((k1_ : Nat) : Int)) = (((3 * ((k1_ : Nat) : Int)).toNat : Nat) : Int) := by rw [wrap64_of _ (by omega) (by omega)]; exact (Int.toNat_of_nonneg (by omega)).symm
       have ht25 : IntKind.i64.wrap (IntKind.i64.wrap (3 * ((k1_ : Nat) : Int)) + 3) = (((IntKind.i64.wrap (3 * ((k1_ : Nat) : Int)) + 3).toNat : Nat) : Int) := by rw [wrap64_of _ (by omega) (by omega)]; exact (Int.toNat_of_nonneg (by omega)).symm
       refine AOps.he [.slot 63 (vi (IntKind.i64.wrap (3 * ((k1_ : Nat) : Int)))) (vi (((3 * ((k1_ : Nat) : Int)).toNat : Nat) : Int)) (congrArg vi ht24), .slot 66 (vi (IntKind.i64.wrap (IntKind.i64.wrap (3 * ((k1_ : Nat) : Int)) + 3))) (vi (((IntKind.i64.wrap (3 * ((k1_ : Nat) : Int)) + 3).toNat : Nat) : Int)) (congrArg vi ht25), .slcS x.bytes (some ((3 * ((k1_ : Nat) : Int)).toNat)) (some ((IntKind.i64.wrap (3 * ((k1_ : Nat) : Int)) + 3).toNat)) (by first | omega | (simp only [Option.getD_some, Option.getD_none]; omega)) (by first | omega | (simp only [Option.getD_some, Option.getD_none]; omega))] 122 [(3, .ptr 0 0), (4, .ptr 1 0), (5, .ptr 2 0), (7, .rv (.sl 7 (((decodeM c h x.dev x.bytes).1).map ItemV.cells))), (9, vi ((k1_ : Nat) : Int)), (56, .agg (avs (Codec.cells c))), (59, vi x.dev), (67, vs (x.bytes.extract ((3 * ((k1_ : Nat) : Int)).toNat) ((IntKind.i64.wrap (3 * ((k1_ : Nat) : Int)) + 3).toNat)))] [(0, .box 24 (avs (Codec.cells c))), (1, .box 28 (avs (Home.cells h))), (2, .box 34 (avs (Raw23.cells x)))] 3 ?_
       exact ⟨rfl, rfl⟩
      refine AWp.cut (fuel := 8) (m := [true, false, true, false, true, true, true, true, true, true, true, true, false, false, false, false, false, false]) (s := Z 122 [(3, .ptr 0 0), (4, .ptr 1 0), (5, .ptr 2 0), (7, .rv (.sl 7 (((decodeM c h x.dev x.bytes).1).map ItemV.cells))), (9, vi ((k1_ : Nat) : Int)), (56, .agg (avs (Codec.cells c))), (58, .ptr 2 0), (67, vs (x.bytes.extract ((3 * ((k1_ : Nat) : Int)).toNat) ((IntKind.i64.wrap (3 * ((k1_ : Nat) : Int)) + 3).toNat)))] [(0, .box 24 (avs (Codec.cells c))), (1, .box 28 (avs (Home.cells h))), (2, .box 34 (avs (Raw23.cells x)))] 3) (AD.step 1 [3] (ADs.cons _ rfl (AOps.he [.run 1] _ _ _ _ ⟨rfl, rfl⟩) hd63 (ADs.cons _ rfl (AOps.he [.run 1] _ _ _ _ ⟨rfl, rfl⟩) hd64 (ADs.nil)))) (fun hd69 => ?_)
      refine AWp.cut (fuel := 8) (m := [false, true, true, true, true, true, true, true, true, true, true, false, false, false, false, false, false, false]) (s := Z 122 [(3, .ptr 0 0), (4, .ptr 1 0), (5, .ptr 2 0), (7, .rv (.sl 7 (((decodeM c h x.dev x.bytes).1).map ItemV.cells))), (9, vi ((k1_ : Nat) : Int)), (57, .agg (avs (Home.cells h))), (59, vi x.dev), (61, vs x.bytes), (63, vi (IntKind.i64.wrap (3 * ((k1_ : Nat) : Int)))), (66, vi (IntKind.i64.wrap (IntKind.i64.wrap (3 * ((k1_ : Nat) : Int)) + 3)))] [(0, .box 24 (avs (Codec.cells c))), (1, .box 28 (avs (Home.cells h))), (2, .box 34 (avs (Raw23.cells x)))] 3) (AD.step 0 [11] (ADs.cons _ rfl (AOps.he [.run 1] _ _ _ _ ⟨rfl, rfl⟩) hd62 (ADs.cons _ rfl ?_ hd65 (ADs.nil)))) (fun hd70 => ?_)
      ·
       have ht26 : IntKind.i64.wrap (3 * ((k1_ : Nat) : Int)) = (((3 * ((k1_ : Nat) : Int)).toNat : Nat) : Int) := by rw [wrap64_of _ (by omega) (by omega)]; exact (Int.toNat_of_nonneg (by omega)).symm
       have ht27 : IntKind.i64.wrap (IntKind.i64.wrap (3 * ((k1_ : Nat) : Int)) + 3) = (((IntKind.i64.wrap (3 * ((k1_ : Nat) : Int)) + 3).toNat : Nat) : Int) := by rw [wrap64_of _ (by omega) (by omega)]; exact (Int.toNat_of_nonneg (by omega)).symm
       refine AOps.he [.slot 63 (vi (IntKind.i64.wrap (3 * ((k1_ : Nat) : Int)))) (vi (((3 * ((k1_ : Nat) : Int)).toNat : Nat) : Int)) (congrArg vi ht26), .slot 66 (vi (IntKind.i64.wrap (IntKind.i64.wrap (3 * ((k1_ : Nat) : Int)) + 3))) (vi (((IntKind.i64.wrap (3 * ((k1_ : Nat) : Int)) + 3).toNat : Nat) : Int)) (congrArg vi ht27), .slcS x.bytes (some ((3 * ((k1_ : Nat) : Int)).toNat)) (some ((IntKind.i64.wrap (3 * ((k1_ : Nat) : Int)) + 3).toNat)) (by first | omega | (simp only [Option.getD_some, Option.getD_none]; omega)) (by first | omega | (simp only [Option.getD_some, Option.getD_none]; omega))] 122 [(3, .ptr 0 0), (4, .ptr 1 0), (5, .ptr 2 0), (7, .rv (.sl 7 (((decodeM c h x.dev x.bytes).1).map ItemV.cells))), (9, vi ((k1_ : Nat) : Int)), (57, .agg (avs (Home.cells h))), (59, vi x.dev), (67, vs (x.bytes.extract ((3 * ((k1_ : Nat) : Int)).toNat) ((IntKind.i64.wrap (3 * ((k1_ : Nat) : Int)) + 3).toNat)))] [(0, .box 24 (avs (Codec.cells c))), (1, .box 28 (avs (Home.cells h))), (2, .box 34 (avs (Raw23.cells x)))] 3 ?_
       exact ⟨rfl, rfl⟩
      refine AWp.cut (fuel := 8) (m := [false, true, true, false, true, true, true, true, true, true, true, true, false, false, false, false, false, false]) (s := Z 122 [(3, .ptr 0 0), (4, .ptr 1 0), (5, .ptr 2 0), (7, .rv (.sl 7 (((decodeM c h x.dev x.bytes).1).map ItemV.cells))), (9, vi ((k1_ : Nat) : Int)), (57, .agg (avs (Home.cells h))), (58, .ptr 2 0), (67, vs (x.bytes.extract ((3 * ((k1_ : Nat) : Int)).toNat) ((IntKind.i64.wrap (3 * ((k1_ : Nat) : Int)) + 3).toNat)))] [(0, .box 24 (avs (Codec.cells c))), (1, .box 28 (avs (Home.cells h))), (2, .box 34 (avs (Raw23.cells x)))] 3) (AD.step 0 [3] (ADs.cons _ rfl (AOps.he [.run 1] _ _ _ _ ⟨rfl, rfl⟩) hd63 (ADs.cons _ rfl (AOps.he [.run 1] _ _ _ _ ⟨rfl, rfl⟩) hd65 (ADs.nil)))) (fun hd71 => ?_)
      refine AWp.cut (fuel := 8) (m := [false, false, true, true, true, true, true, true, true, true, true, true, false, false, false, false, false, false]) (s := Z 122 [(3, .ptr 0 0), (4, .ptr 1 0), (5, .ptr 2 0), (7, .rv (.sl 7 (((decodeM c h x.dev x.bytes).1).map ItemV.cells))), (9, vi ((k1_ : Nat) : Int)), (59, vi x.dev), (67, vs (x.bytes.extract ((3 * ((k1_ : Nat) : Int)).toNat) ((IntKind.i64.wrap (3 * ((k1_ : Nat) : Int)) + 3).toNat)))] [(0, .box 24 (avs (Codec.cells c))), (1, .box 28 (avs (Home.cells h))), (2, .box 34 (avs (Raw23.cells x)))] 3) (AD.step 0 [1] (ADs.cons _ rfl (AOps.he [.run 1] _ _ _ _ ⟨rfl, rfl⟩) hd64 (ADs.cons _ rfl (AOps.he [.run 1] _ _ _ _ ⟨rfl, rfl⟩) hd65 (ADs.nil)))) (fun hd72 => ?_)
      refine AWp.cut (fuel := 9) (m := [true, true, true, false, true, false, true, true, true, true, true, false, false, false, false, false, false, false]) (s := Z 122 [(3, .ptr 0 0), (4, .ptr 1 0), (5, .ptr 2 0), (7, .rv (.sl 7 (((decodeM c h x.dev x.bytes).1).map ItemV.cells))), (9, vi ((k1_ : Nat) : Int)), (56, .agg (avs (Codec.cells c))), (57, .agg (avs (Home.cells h))), (58, .ptr 2 0), (60, .ptr 2 1), (63, vi (IntKind.i64.wrap (3 * ((k1_ : Nat) : Int)))), (66, vi (IntKind.i64.wrap (IntKind.i64.wrap (3 * ((k1_ : Nat) : Int)) + 3)))] [(0, .box 24 (avs (Codec.cells c))), (1, .box 28 (avs (Home.cells h))), (2, .box 34 (avs (Raw23.cells x)))] 3) (AD.step 3 [5] (ADs.cons _ rfl (AOps.he [.run 1] _ _ _ _ ⟨rfl, rfl⟩) hd66 (ADs.cons _ rfl (AOps.he [.run 1] _ _ _ _ ⟨rfl, rfl⟩) hd67 (ADs.nil)))) (fun hd73 => ?_)
      refine AWp.cut (fuel := 9) (m := [true, false, true, true, true, false, true, true, true, true, true, false, false, false, false, false, false, false]) (s := Z 122 [(3, .ptr 0 0), (4, .ptr 1 0), (5, .ptr 2 0), (7, .rv (.sl 7 (((decodeM c h x.dev x.bytes).1).map ItemV.cells))), (9, vi ((k1_ : Nat) : Int)), (56, .agg (avs (Codec.cells c))), (59, vi x.dev), (60, .ptr 2 1), (63, vi (IntKind.i64.wrap (3 * ((k1_ : Nat) : Int)))), (66, vi (IntKind.i64.wrap (IntKind.i64.wrap (3 * ((k1_ : Nat) : Int)) + 3)))] [(0, .box 24 (avs (Codec.cells c))), (1, .box 28 (avs (Home.cells h))), (2, .box 34 (avs (Raw23.cells x)))] 3) (AD.step 1 [5] (ADs.cons _ rfl (AOps.he [.run 1] _ _ _ _ ⟨rfl, rfl⟩) hd66 (ADs.cons _ rfl (AOps.he [.run 1] _ _ _ _ ⟨rfl, rfl⟩) hd68 (ADs.nil)))) (fun hd74 => ?_)
      refine AWp.cut (fuel := 9) (m := [true, false, true, false, true, true, true, true, true, true, true, false, false, false, false, false, false, false]) (s := Z 122 [(3, .ptr 0 0), (4, .ptr 1 0), (5, .ptr 2 0), (7, .rv (.sl 7 (((decodeM c h x.dev x.bytes).1).map ItemV.cells))), (9, vi ((k1_ : Nat) : Int)), (56, .agg (avs (Codec.cells c))), (58, .ptr 2 0), (61, vs x.bytes), (63, vi (IntKind.i64.wrap (3 * ((k1_ : Nat) : Int)))), (66, vi (IntKind.i64.wrap (IntKind.i64.wrap (3 * ((k1_ : Nat) : Int)) + 3)))] [(0, .box 24 (avs (Codec.cells c))), (1, .box 28 (avs (Home.cells h))), (2, .box 34 (avs (Raw23.cells x)))] 3) (AD.step 1 [3, 11] (ADs.cons _ rfl (AOps.he [.run 1] _ _ _ _ ⟨rfl, rfl⟩) hd67 (ADs.cons _ rfl (AOps.he [.run 1] _ _ _ _ ⟨rfl, rfl⟩) hd68 (ADs.cons _ rfl ?_ hd69 (ADs.nil))))) (fun hd75 => ?_)
      ·
       have ht16 : IntKind.i64.wrap (3 * ((k1_ : Nat) : Int)) = (((3 * ((k1_ : Nat) : Int)).toNat : Nat) : Int) := by rw [wrap64_of _ (by omega) (by omega)]; exact (Int.toNat_of_nonneg (by omega)).symm
       have ht17 : IntKind.i64.wrap (IntKind.i64.wrap (3 * ((k1_ : Nat) : Int)) + 3) = (((IntKind.i64.wrap (3 * ((k1_ : Nat) : Int)) + 3).toNat : Nat) : Int) := by rw [wrap64_of _ (by omega) (by omega)]; exact (Int.toNat_of_nonneg (by omega)).symm
       refine AOps.he [.slot 63 (vi (IntKind.i64.wrap (3 * ((k1_ : Nat) : Int)))) (vi (((3 * ((k1_ : Nat) : Int)).toNat : Nat) : Int)) (congrArg vi ht16), .slot 66 (vi (IntKind.i64.wrap (IntKind.i64.wrap (3 * ((k1_ : Nat) : Int)) + 3))) (vi (((IntKind.i64.wrap (3 * ((k1_ : Nat) : Int)) + 3).toNat : Nat) : Int)) (congrArg vi ht17), .slcS x.bytes (some ((3 * ((k1_ : Nat) : Int)).toNat)) (some ((IntKind.i64.wrap (3 * ((k1_ : Nat) : Int)) + 3).toNat)) (by first | omega | (simp only [Option.getD_some, Option.getD_none]; omega)) (by first | omega | (simp only [Option.getD_some, Option.getD_none]; omega))] 122 [(3, .ptr 0 0), (4, .ptr 1 0), (5, .ptr 2 0), (7, .rv (.sl 7 (((decodeM c h x.dev x.bytes).1).map ItemV.cells))), (9, vi ((k1_ : Nat) : Int)), (56, .agg (avs (Codec.cells c))), (58, .ptr 2 0), (67, vs (x.bytes.extract ((3 * ((k1_ : Nat) : Int)).toNat) ((IntKind.i64.wrap (3 * ((k1_ : Nat) : Int)) + 3).toNat)))] [(0, .box 24 (avs (Codec.cells c))), (1, .box 28 (avs (Home.cells h))), (2, .box 34 (avs (Raw23.cells x)))] 3 ?_
       exact ⟨rfl, rfl⟩
      refine AWp.cut (fuel := 9) (m := [false, true, true, true, true, false, true, true, true, true, true, false, false, false, false, false, false, false]) (s := Z 122 [(3, .ptr 0 0), (4, .ptr 1 0), (5, .ptr 2 0), (7, .rv (.sl 7 (((decodeM c h x.dev x.bytes).1).map ItemV.cells))), (9, vi ((k1_ : Nat) : Int)), (57, .agg (avs (Home.cells h))), (59, vi x.dev), (60, .ptr 2 1), (63, vi (IntKind.i64.wrap (3 * ((k1_ : Nat) : Int)))), (66, vi (IntKind.i64.wrap (IntKind.i64.wrap (3 * ((k1_ : Nat) : Int)) + 3)))] [(0, .box 24 (avs (Codec.cells c))), (1, .box 28 (avs (Home.cells h))), (2, .box 34 (avs (Raw23.cells x)))] 3) (AD.step 0 [5] (ADs.cons _ rfl (AOps.he [.run 1] _ _ _ _ ⟨rfl, rfl⟩) hd66 (ADs.cons _ rfl (AOps.he [.run 1] _ _ _ _ ⟨rfl, rfl⟩) hd70 (ADs.nil)))) (fun hd76 => ?_)
      refine AWp.cut (fuel := 9) (m := [false, true, true, false, true, true, true, true, true, true, true, false, false, false, false, false, false, false]) (s := Z 122 [(3, .ptr 0 0), (4, .ptr 1 0), (5, .ptr 2 0), (7, .rv (.sl 7 (((decodeM c h x.dev x.bytes).1).map ItemV.cells))), (9, vi ((k1_ : Nat) : Int)), (57, .agg (avs (Home.cells h))), (58, .ptr 2 0), (61, vs x.bytes), (63, vi (IntKind.i64.wrap (3 * ((k1_ : Nat) : Int)))), (66, vi (IntKind.i64.wrap (IntKind.i64.wrap (3 * ((k1_ : Nat) : Int)) + 3)))] [(0, .box 24 (avs (Codec.cells c))), (1, .box 28 (avs (Home.cells h))), (2, .box 34 (avs (Raw23.cells x)))] 3) (AD.step 0 [3, 11] (ADs.cons _ rfl (AOps.he [.run 1] _ _ _ _ ⟨rfl, rfl⟩) hd67 (ADs.cons _ rfl (AOps.he [.run 1] _ _ _ _ ⟨rfl, rfl⟩) hd70 (ADs.cons _ rfl ?_ hd71 (ADs.nil))))) (fun hd77 => ?_)
      ·
       have ht18 : IntKind.i64.wrap (3 * ((k1_ : Nat) : Int)) = (((3 * ((k1_ : Nat) : Int)).toNat : Nat) : Int) := by rw [wrap64_of _ (by omega) (by omega)]; exact (Int.toNat_of_nonneg (by omega)).symm
       have ht19 : IntKind.i64.wrap (IntKind.i64.wrap (3 * ((k1_ : Nat) : Int)) + 3) = (((IntKind.i64.wrap (3 * ((k1_ : Nat) : Int)) + 3).toNat : Nat) : Int) := by rw [wrap64_of _ (by omega) (by omega)]; exact (Int.toNat_of_nonneg (by omega)).symm
       refine AOps.he [.slot 63 (vi (IntKind.i64.wrap (3 * ((k1_ : Nat) : Int)))) (vi (((3 * ((k1_ : Nat) : Int)).toNat : Nat) : Int)) (congrArg vi ht18), .slot 66 (vi (IntKind.i64.wrap (IntKind.i64.wrap (3 * ((k1_ : Nat) : Int)) + 3))) (vi (((IntKind.i64.wrap (3 * ((k1_ : Nat) : Int)) + 3).toNat : Nat) : Int)) (congrArg vi ht19), .slcS x.bytes (some ((3 * ((k1_ : Nat) : Int)).toNat)) (some ((IntKind.i64.wrap (3 * ((k1_ : Nat) : Int)) + 3).toNat)) (by first | omega | (simp only [Option.getD_some, Option.getD_none]; omega)) (by first | omega | (simp only [Option.getD_some, Option.getD_none]; omega))] 122 [(3, .ptr 0 0), (4, .ptr 1 0), (5, .ptr 2 0), (7, .rv (.sl 7 (((decodeM c h x.dev x.bytes).1).map ItemV.cells))), (9, vi ((k1_ : Nat) : Int)), (57, .agg (avs (Home.cells h))), (58, .ptr 2 0), (67, vs (x.bytes.extract ((3 * ((k1_ : Nat) : Int)).toNat) ((IntKind.i64.wrap (3 * ((k1_ : Nat) : Int)) + 3).toNat)))] [(0, .box 24 (avs (Codec.cells c))), (1, .box 28 (avs (Home.cells h))), (2, .box 34 (avs (Raw23.cells x)))] 3 ?_
       exact ⟨rfl, rfl⟩
      refine AWp.cut (fuel := 9) (m := [false, false, true, true, true, true, true, true, true, true, true, false, false, false, false, false, false, false]) (s := Z 122 [(3, .ptr 0 0), (4, .ptr 1 0), (5, .ptr 2 0), (7, .rv (.sl 7 (((decodeM c h x.dev x.bytes).1).map ItemV.cells))), (9, vi ((k1_ : Nat) : Int)), (59, vi x.dev), (61, vs x.bytes), (63, vi (IntKind.i64.wrap (3 * ((k1_ : Nat) : Int)))), (66, vi (IntKind.i64.wrap (IntKind.i64.wrap (3 * ((k1_ : Nat) : Int)) + 3)))] [(0, .box 24 (avs (Codec.cells c))), (1, .box 28 (avs (Home.cells h))), (2, .box 34 (avs (Raw23.cells x)))] 3) (AD.step 0 [1, 11] (ADs.cons _ rfl (AOps.he [.run 1] _ _ _ _ ⟨rfl, rfl⟩) hd68 (ADs.cons _ rfl (AOps.he [.run 1] _ _ _ _ ⟨rfl, rfl⟩) hd70 (ADs.cons _ rfl ?_ hd72 (ADs.nil))))) (fun hd78 => ?_)
      ·
       have ht20 : IntKind.i64.wrap (3 * ((k1_ : Nat) : Int)) = (((3 * ((k1_ : Nat) : Int)).toNat : Nat) : Int) := by rw [wrap64_of _ (by omega) (by omega)]; exact (Int.toNat_of_nonneg (by omega)).symm
       have ht21 : IntKind.i64.wrap (IntKind.i64.wrap (3 * ((k1_ : Nat) : Int)) + 3) = (((IntKind.i64.wrap (3 * ((k1_ : Nat) : Int)) + 3).toNat : Nat) : Int) := by rw [wrap64_of _ (by omega) (by omega)]; exact (Int.toNat_of_nonneg (by omega)).symm
       refine AOps.he [.slot 63 (vi (IntKind.i64.wrap (3 * ((k1_ : Nat) : Int)))) (vi (((3 * ((k1_ : Nat) : Int)).toNat : Nat) : Int)) (congrArg vi ht20), .slot 66 (vi (IntKind.i64.wrap (IntKind.i64.wrap (3 * ((k1_ : Nat) : Int)) + 3))) (vi (((IntKind.i64.wrap (3 * ((k1_ : Nat) : Int)) + 3).toNat : Nat) : Int)) (congrArg vi ht21), .slcS x.bytes (some ((3 * ((k1_ : Nat) : Int)).toNat)) (some ((IntKind.i64.wrap (3 * ((k1_ : Nat) : Int)) + 3).toNat)) (by first | omega | (simp only [Option.getD_some, Option.getD_none]; omega)) (by first | omega | (simp only [Option.getD_some, Option.getD_none]; omega))] 122 [(3, .ptr 0 0), (4, .ptr 1 0), (5, .ptr 2 0), (7, .rv (.sl 7 (((decodeM c h x.dev x.bytes).1).map ItemV.cells))), (9, vi ((k1_ : Nat) : Int)), (59, vi x.dev), (67, vs (x.bytes.extract ((3 * ((k1_ : Nat) : Int)).toNat) ((IntKind.i64.wrap (3 * ((k1_ : Nat) : Int)) + 3).toNat)))] [(0, .box 24 (avs (Codec.cells c))), (1, .box 28 (avs (Home.cells h))), (2, .box 34 (avs (Raw23.cells x)))] 3 ?_
       exact ⟨rfl, rfl⟩
      refine AWp.cut (fuel := 9) (m := [false, false, true, false, true, true, true, true, true, true, true, true, false, false, false, false, false, false]) (s := Z 122 [(3, .ptr 0 0), (4, .ptr 1 0), (5, .ptr 2 0), (7, .rv (.sl 7 (((decodeM c h x.dev x.bytes).1).map ItemV.cells))), (9, vi ((k1_ : Nat) : Int)), (58, .ptr 2 0), (67, vs (x.bytes.extract ((3 * ((k1_ : Nat) : Int)).toNat) ((IntKind.i64.wrap (3 * ((k1_ : Nat) : Int)) + 3).toNat)))] [(0, .box 24 (avs (Codec.cells c))), (1, .box 28 (avs (Home.cells h))), (2, .box 34 (avs (Raw23.cells x)))] 3) (AD.step 0 [1, 3] (ADs.cons _ rfl (AOps.he [.run 1] _ _ _ _ ⟨rfl, rfl⟩) hd69 (ADs.cons _ rfl (AOps.he [.run 1] _ _ _ _ ⟨rfl, rfl⟩) hd71 (ADs.cons _ rfl (AOps.he [.run 1] _ _ _ _ ⟨rfl, rfl⟩) hd72 (ADs.nil))))) (fun hd79 => ?_)
      refine AWp.cut (fuel := 10) (m := [true, false, true, false, true, false, true, true, true, true, true, false, false, false, false, false, false, false]) (s := Z 122 [(3, .ptr 0 0), (4, .ptr 1 0), (5, .ptr 2 0), (7, .rv (.sl 7 (((decodeM c h x.dev x.bytes).1).map ItemV.cells))), (9, vi ((k1_ : Nat) : Int)), (56, .agg (avs (Codec.cells c))), (58, .ptr 2 0), (60, .ptr 2 1), (63, vi (IntKind.i64.wrap (3 * ((k1_ : Nat) : Int)))), (66, vi (IntKind.i64.wrap (IntKind.i64.wrap (3 * ((k1_ : Nat) : Int)) + 3)))] [(0, .box 24 (avs (Codec.cells c))), (1, .box 28 (avs (Home.cells h))), (2, .box 34 (avs (Raw23.cells x)))] 3) (AD.step 1 [3, 5] (ADs.cons _ rfl (AOps.he [.run 1] _ _ _ _ ⟨rfl, rfl⟩) hd73 (ADs.cons _ rfl (AOps.he [.run 1] _ _ _ _ ⟨rfl, rfl⟩) hd74 (ADs.cons _ rfl (AOps.he [.run 1] _ _ _ _ ⟨rfl, rfl⟩) hd75 (ADs.nil))))) (fun hd80 => ?_)
      refine AWp.cut (fuel := 10) (m := [false, true, true, false, true, false, true, true, true, true, true, false, false, false, false, false, false, false]) (s := Z 122 [(3, .ptr 0 0), (4, .ptr 1 0), (5, .ptr 2 0), (7, .rv (.sl 7 (((decodeM c h x.dev x.bytes).1).map ItemV.cells))), (9, vi ((k1_ : Nat) : Int)), (57, .agg (avs (Home.cells h))), (58, .ptr 2 0), (60, .ptr 2 1), (63, vi (IntKind.i64.wrap (3 * ((k1_ : Nat) : Int)))), (66, vi (IntKind.i64.wrap (IntKind.i64.wrap (3 * ((k1_ : Nat) : Int)) + 3)))] [(0, .box 24 (avs (Codec.cells c))), (1, .box 28 (avs (Home.cells h))), (2, .box 34 (avs (Raw23.cells x)))] 3) (AD.step 0 [3, 5] (ADs.cons _ rfl (AOps.he [.run 1] _ _ _ _ ⟨rfl, rfl⟩) hd73 (ADs.cons _ rfl (AOps.he [.run 1] _ _ _ _ ⟨rfl, rfl⟩) hd76 (ADs.cons _ rfl (AOps.he [.run 1] _ _ _ _ ⟨rfl, rfl⟩) hd77 (ADs.nil))))) (fun hd81 => ?_)
      refine AWp.cut (fuel := 10) (m := [false, false, true, true, true, false, true, true, true, true, true, false, false, false, false, false, false, false]) (s := Z 122 [(3, .ptr 0 0), (4, .ptr 1 0), (5, .ptr 2 0), (7, .rv (.sl 7 (((decodeM c h x.dev x.bytes).1).map ItemV.cells))), (9, vi ((k1_ : Nat) : Int)), (59, vi x.dev), (60, .ptr 2 1), (63, vi (IntKind.i64.wrap (3 * ((k1_ : Nat) : Int)))), (66, vi (IntKind.i64.wrap (IntKind.i64.wrap (3 * ((k1_ : Nat) : Int)) + 3)))] [(0, .box 24 (avs (Codec.cells c))), (1, .box 28 (avs (Home.cells h))), (2, .box 34 (avs (Raw23.cells x)))] 3) (AD.step 0 [1, 5] (ADs.cons _ rfl (AOps.he [.run 1] _ _ _ _ ⟨rfl, rfl⟩) hd74 (ADs.cons _ rfl (AOps.he [.run 1] _ _ _ _ ⟨rfl, rfl⟩) hd76 (ADs.cons _ rfl (AOps.he [.run 1] _ _ _ _ ⟨rfl, rfl⟩) hd78 (ADs.nil))))) (fun hd82 => ?_)
      refine AWp.cut (fuel := 10) (m := [false, false, true, false, true, true, true, true, true, true, true, false, false, false, false, false, false, false]) (s := Z 122 [(3, .ptr 0 0), (4, .ptr 1 0), (5, .ptr 2 0), (7, .rv (.sl 7 (((decodeM c h x.dev x.bytes).1).map ItemV.cells))), (9, vi ((k1_ : Nat) : Int)), (58, .ptr 2 0), (61, vs x.bytes), (63, vi (IntKind.i64.wrap (3 * ((k1_ : Nat) : Int)))), (66, vi (IntKind.i64.wrap (IntKind.i64.wrap (3 * ((k1_ : Nat) : Int)) + 3)))] [(0, .box 24 (avs (Codec.cells c))), (1, .box 28 (avs (Home.cells h))), (2, .box 34 (avs (Raw23.cells x)))] 3) (AD.step 0 [1, 3, 11] (ADs.cons _ rfl (AOps.he [.run 1] _ _ _ _ ⟨rfl, rfl⟩) hd75 (ADs.cons _ rfl (AOps.he [.run 1] _ _ _ _ ⟨rfl, rfl⟩) hd77 (ADs.cons _ rfl (AOps.he [.run 1] _ _ _ _ ⟨rfl, rfl⟩) hd78 (ADs.cons _ rfl ?_ hd79 (ADs.nil)))))) (fun hd83 => ?_)
      ·
       have ht14 : IntKind.i64.wrap (3 * ((k1_ : Nat) : Int)) = (((3 * ((k1_ : Nat) : Int)).toNat : Nat) : Int) := by rw [wrap64_of _ (by omega) (by omega)]; exact (Int.toNat_of_nonneg (by omega)).symm
       have ht15 : IntKind.i64.wrap (IntKind.i64.wrap (3 * ((k1_ : Nat) : Int)) + 3) = (((IntKind.i64.wrap (3 * ((k1_ : Nat) : Int)) + 3).toNat : Nat) : Int) := by rw [wrap64_of _ (by omega) (by omega)]; exact (Int.toNat_of_nonneg (by omega)).symm
       refine AOps.he [.slot 63 (vi (IntKind.i64.wrap (3 * ((k1_ : Nat) : Int)))) (vi (((3 * ((k1_ : Nat) : Int)).toNat : Nat) : Int)) (congrArg vi ht14), .slot 66 (vi (IntKind.i64.wrap (IntKind.i64.wrap (3 * ((k1_ : Nat) : Int)) + 3))) (vi (((IntKind.i64.wrap (3 * ((k1_ : Nat) : Int)) + 3).toNat : Nat) : Int)) (congrArg vi ht15), .slcS x.bytes (some ((3 * ((k1_ : Nat) : Int)).toNat)) (some ((IntKind.i64.wrap (3 * ((k1_ : Nat) : Int)) + 3).toNat)) (by first | omega | (simp only [Option.getD_some, Option.getD_none]; omega)) (by first | omega | (simp only [Option.getD_some, Option.getD_none]; omega))] 122 [(3, .ptr 0 0), (4, .ptr 1 0), (5, .ptr 2 0), (7, .rv (.sl 7 (((decodeM c h x.dev x.bytes).1).map ItemV.cells))), (9, vi ((k1_ : Nat) : Int)), (58, .ptr 2 0), (67, vs (x.bytes.extract ((3 * ((k1_ : Nat) : Int)).toNat) ((IntKind.i64.wrap (3 * ((k1_ : Nat) : Int)) + 3).toNat)))] [(0, .box 24 (avs (Codec.cells c))), (1, .box 28 (avs (Home.cells h))), (2, .box 34 (avs (Raw23.cells x)))] 3 ?_
       exact ⟨rfl, rfl⟩
      refine AWp.cut (fuel := 11) (m := [false, false, true, false, true, false, true, true, true, true, true, false, false, false, false, false, false, false]) (s := Z 122 [(3, .ptr 0 0), (4, .ptr 1 0), (5, .ptr 2 0), (7, .rv (.sl 7 (((decodeM c h x.dev x.bytes).1).map ItemV.cells))), (9, vi ((k1_ : Nat) : Int)), (58, .ptr 2 0), (60, .ptr 2 1), (63, vi (IntKind.i64.wrap (3 * ((k1_ : Nat) : Int)))), (66, vi (IntKind.i64.wrap (IntKind.i64.wrap (3 * ((k1_ : Nat) : Int)) + 3)))] [(0, .box 24 (avs (Codec.cells c))), (1, .box 28 (avs (Home.cells h))), (2, .box 34 (avs (Raw23.cells x)))] 3) (AD.step 0 [1, 3, 5] (ADs.cons _ rfl (AOps.he [.run 1] _ _ _ _ ⟨rfl, rfl⟩) hd80 (ADs.cons _ rfl (AOps.he [.run 1] _ _ _ _ ⟨rfl, rfl⟩) hd81 (ADs.cons _ rfl (AOps.he [.run 1] _ _ _ _ ⟨rfl, rfl⟩) hd82 (ADs.cons _ rfl (AOps.he [.run 1] _ _ _ _ ⟨rfl, rfl⟩) hd83 (ADs.nil)))))) (fun hd84 => ?_)
      refine AWp.cut (fuel := 12) (m := [false, false, true, false, true, false, true, true, true, true, false, false, false, false, false, false, false, false]) (s := Z 122 [(3, .ptr 0 0), (4, .ptr 1 0), (5, .ptr 2 0), (7, .rv (.sl 7 (((decodeM c h x.dev x.bytes).1).map ItemV.cells))), (9, vi ((k1_ : Nat) : Int)), (58, .ptr 2 0), (60, .ptr 2 1), (63, vi (IntKind.i64.wrap (3 * ((k1_ : Nat) : Int)))), (65, vi (IntKind.i64.wrap (3 * ((k1_ : Nat) : Int))))] [(0, .box 24 (avs (Codec.cells c))), (1, .box 28 (avs (Home.cells h))), (2, .box 34 (avs (Raw23.cells x)))] 3) (AD.tkV 10 _ _ _ _ hd84) (fun hd85 => ?_)
      refine AWp.cut (fuel := 13) (m := [false, false, true, false, true, false, true, true, true, false, false, false, false, false, false, false, false, false]) (s := Z 122 [(3, .ptr 0 0), (4, .ptr 1 0), (5, .ptr 2 0), (7, .rv (.sl 7 (((decodeM c h x.dev x.bytes).1).map ItemV.cells))), (9, vi ((k1_ : Nat) : Int)), (58, .ptr 2 0), (60, .ptr 2 1), (63, vi (IntKind.i64.wrap (3 * ((k1_ : Nat) : Int)))), (64, vi ((k1_ : Nat) : Int))] [(0, .box 24 (avs (Codec.cells c))), (1, .box 28 (avs (Home.cells h))), (2, .box 34 (avs (Raw23.cells x)))] 3) (AD.tkV 9 _ _ _ _ hd85) (fun hd86 => ?_)
      refine AWp.cut (fuel := 14) (m := [false, false, true, false, true, false, true, true, false, false, false, false, false, false, false, false, false, false]) (s := Z 122 [(3, .ptr 0 0), (4, .ptr 1 0), (5, .ptr 2 0), (7, .rv (.sl 7 (((decodeM c h x.dev x.bytes).1).map ItemV.cells))), (9, vi ((k1_ : Nat) : Int)), (58, .ptr 2 0), (60, .ptr 2 1), (63, vi (IntKind.i64.wrap (3 * ((k1_ : Nat) : Int))))] [(0, .box 24 (avs (Codec.cells c))), (1, .box 28 (avs (Home.cells h))), (2, .box 34 (avs (Raw23.cells x)))] 3) (AD.tk 8 _ _ _ _ hd86) (fun hd87 => ?_)
      refine AWp.cut (fuel := 15) (m := [false, false, true, false, true, false, true, false, false, false, false, false, false, false, false, false, false, false]) (s := Z 122 [(3, .ptr 0 0), (4, .ptr 1 0), (5, .ptr 2 0), (7, .rv (.sl 7 (((decodeM c h x.dev x.bytes).1).map ItemV.cells))), (9, vi ((k1_ : Nat) : Int)), (58, .ptr 2 0), (60, .ptr 2 1), (62, vi ((k1_ : Nat) : Int))] [(0, .box 24 (avs (Codec.cells c))), (1, .box 28 (avs (Home.cells h))), (2, .box 34 (avs (Raw23.cells x)))] 3) (AD.tkV 7 _ _ _ _ hd87) (fun hd88 => ?_)
      refine AWp.cut (fuel := 16) (m := [false, false, true, false, true, false, false, false, false, false, false, false, false, false, false, false, false, false]) (s := Z 122 [(3, .ptr 0 0), (4, .ptr 1 0), (5, .ptr 2 0), (7, .rv (.sl 7 (((decodeM c h x.dev x.bytes).1).map ItemV.cells))), (9, vi ((k1_ : Nat) : Int)), (58, .ptr 2 0), (60, .ptr 2 1)] [(0, .box 24 (avs (Codec.cells c))), (1, .box 28 (avs (Home.cells h))), (2, .box 34 (avs (Raw23.cells x)))] 3) (AD.tk 6 _ _ _ _ hd88) (fun hd89 => ?_)
      refine AWp.cut (fuel := 17) (m := [false, false, true, false, false, false, false, false, false, false, false, false, false, false, false, false, false, false]) (s := Z 122 [(3, .ptr 0 0), (4, .ptr 1 0), (5, .ptr 2 0), (7, .rv (.sl 7 (((decodeM c h x.dev x.bytes).1).map ItemV.cells))), (9, vi ((k1_ : Nat) : Int)), (58, .ptr 2 0)] [(0, .box 24 (avs (Codec.cells c))), (1, .box 28 (avs (Home.cells h))), (2, .box 34 (avs (Raw23.cells x)))] 3) (AD.tk 4 _ _ _ _ hd89) (fun hd90 => ?_)
      refine AWp.cut (fuel := 18) (m := [false, false, false, false, false, false, false, false, false, false, false, false, false, false, false, false, false, false]) (s := Z 122 [(3, .ptr 0 0), (4, .ptr 1 0), (5, .ptr 2 0), (7, .rv (.sl 7 (((decodeM c h x.dev x.bytes).1).map ItemV.cells))), (9, vi ((k1_ : Nat) : Int))] [(0, .box 24 (avs (Codec.cells c))), (1, .box 28 (avs (Home.cells h))), (2, .box 34 (avs (Raw23.cells x)))] 3) (AD.tk 2 _ _ _ _ hd90) (fun hd91 => ?_)
      exact AWp.drawnA 18 leZ hd91
     ·
      have h9' := of_decide_eq_false h9
      refine AWp.exit ?_
      have hL1_ : lPartsM_L1 c h x = none := scanN_end hs1_ (by omega)
      refine AWp.hz [.call 9 [] (vb true) [] 0 (awake_ok), .run 1] 122 [(6, vb true)] [] 3 ?_
      refine AWp.ret ?_
      exact leafR (r := vb true) (by unfold lPartsM; (try rw [h2]); (try rw [h3]); (try rw [h7]); (try rw [hL1_]); first | done | kernel_rfl)
end Go.Proofs.Ytmjimhkbehoomaa
