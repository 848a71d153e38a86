/- The statements: the contracts. -/
import Derived.Test.YtnnlaccdendkpaaVRb
namespace Go.Proofs.Ytnnlaccdendkpaa
open Go Go.Av Go.Hh Go.Proofs
set_option maxRecDepth 100000
set_option maxHeartbeats 4000000
def awakeM  : Bool :=
 (bif ((((((encodeM (⟨2, 3, 1, 2, [], ⟨#[]⟩, ⟨#[]⟩, ⟨#[]⟩⟩ : MsgV)).2) != 0) || ((((encodeM (⟨7, 1, 0, 5, [], ⟨#[]⟩, ⟨#[]⟩, ⟨#[1, 0]⟩⟩ : MsgV)).2) != 0) || ((((decodeM (⟨#[4, 6, 2, 4]⟩)).2) != 0) || (!beqS ((encodeM (⟨2, 3, 1, 2, [], ⟨#[]⟩, ⟨#[]⟩, ⟨#[]⟩⟩ : MsgV)).1) (⟨#[4, 6, 2, 4]⟩) || !beqS ((encodeM (⟨7, 1, 0, 5, [], ⟨#[]⟩, ⟨#[]⟩, ⟨#[1, 0]⟩⟩ : MsgV)).1) (⟨#[14, 2, 10, 4, 1, 0]⟩))))) || !(msameM ((decodeM (⟨#[4, 6, 2, 4]⟩)).1) (⟨2, 3, 1, 2, [], ⟨#[]⟩, ⟨#[]⟩, ⟨#[]⟩⟩ : MsgV))) || (((mCheckM (⟨2, 3, 0, 0, [], ⟨#[]⟩, ⟨#[110]⟩, ⟨#[]⟩⟩ : MsgV) != 4) || (mCheckM (⟨1, 3, 0, 0, [(⟨⟨4, ⟨#[115, 109, 111, 107, 101]⟩, ⟨#[97, 108, 97, 114, 109]⟩⟩, ⟨1, 1, ⟨#[]⟩⟩, 1⟩ : ItemV)], ⟨#[]⟩, ⟨#[]⟩, ⟨#[]⟩⟩ : MsgV) != 1)) || (mCheckM (⟨1, 4, 0, 0, [(⟨⟨4, ⟨#[115, 109, 111, 107, 101]⟩, ⟨#[97, 108, 97, 114, 109]⟩⟩, ⟨1, 1, ⟨#[]⟩⟩, 1⟩ : ItemV), (⟨⟨4, ⟨#[115, 109, 111, 107, 101]⟩, ⟨#[97, 108, 97, 114, 109]⟩⟩, ⟨1, 1, ⟨#[]⟩⟩, 1⟩ : ItemV)], ⟨#[]⟩, ⟨#[]⟩, ⟨#[]⟩⟩ : MsgV) != 14))) then false else ((urgentM (⟨rstdM , [(⟨4, 0, 0, false, 0, ⟨#[104, 97, 108, 108]⟩, [⟨#[115, 109, 111, 107, 101]⟩, ⟨#[108, 101, 118, 101, 108]⟩]⟩ : Dev)]⟩ : Home) (⟨1, 4, 0, 0, [(⟨⟨4, ⟨#[115, 109, 111, 107, 101]⟩, ⟨#[97, 108, 97, 114, 109]⟩⟩, ⟨1, 1, ⟨#[]⟩⟩, 1⟩ : ItemV)], ⟨#[]⟩, ⟨#[]⟩, ⟨#[]⟩⟩ : MsgV) && !(urgentM (⟨rstdM , [(⟨4, 0, 0, false, 0, ⟨#[104, 97, 108, 108]⟩, [⟨#[115, 109, 111, 107, 101]⟩, ⟨#[108, 101, 118, 101, 108]⟩]⟩ : Dev)]⟩ : Home) (⟨1, 4, 0, 0, [(⟨⟨4, ⟨#[108, 101, 118, 101, 108]⟩, ⟨#[108, 101, 118, 101, 108]⟩⟩, ⟨2, 1, ⟨#[]⟩⟩, 1⟩ : ItemV)], ⟨#[]⟩, ⟨#[]⟩, ⟨#[]⟩⟩ : MsgV))) && urgentM (⟨rstdM , [(⟨4, 0, 0, false, 0, ⟨#[104, 97, 108, 108]⟩, [⟨#[115, 109, 111, 107, 101]⟩, ⟨#[108, 101, 118, 101, 108]⟩]⟩ : Dev)]⟩ : Home) (⟨5, 4, 0, 0, [], ⟨#[115, 109, 111, 107, 101]⟩, ⟨#[116, 101, 115, 116]⟩, ⟨#[]⟩⟩ : MsgV)))
abbrev awakeM_c1 : Nat × AObj := (3, .box 40 [.rv (.sl 4 ((rstdM ).map Cluster.cells)), .rv (.sl 7 (([(⟨4, 0, 0, false, 0, ⟨#[104, 97, 108, 108]⟩, [⟨#[115, 109, 111, 107, 101]⟩, ⟨#[108, 101, 118, 101, 108]⟩]⟩ : Dev)]).map Dev.cells))])
abbrev awakeM_c2 : Nat × AObj := (2, .box 55 [vi 4, vs (⟨#[115, 109, 111, 107, 101]⟩), vs (⟨#[97, 108, 97, 114, 109]⟩), vi 1, vi 1, vs (⟨#[]⟩), vi 1])
abbrev awakeM_c3 : Nat × AV := (3, vs ((encodeM (⟨7, 1, 0, 5, [], ⟨#[]⟩, ⟨#[]⟩, ⟨#[1, 0]⟩⟩ : MsgV)).1))
abbrev awakeM_c4 : Nat × AV := (1, vs ((encodeM (⟨2, 3, 1, 2, [], ⟨#[]⟩, ⟨#[]⟩, ⟨#[]⟩⟩ : MsgV)).1))
abbrev awakeM_c5 : Nat × AObj := (0, .box 24 (avs (MsgV.cells ((decodeM (⟨#[4, 6, 2, 4]⟩)).1))))
abbrev awakeM_c6 : Nat × AV := (4, vi ((encodeM (⟨7, 1, 0, 5, [], ⟨#[]⟩, ⟨#[]⟩, ⟨#[1, 0]⟩⟩ : MsgV)).2))
theorem awakeM_ok  :
 ACalls Try.prog G_ 10 [] [] 0 (fun r τ => r = vb (awakeM ) ∧ τ = []) := by
 refine ACalls.body Try.func10 rfl 97 [] ?_
 refine AWp.hz [.run 1] 97 [] [] 0 ?_
 refine AWp.hz [.run 1, .nils 12 [none, none, none, none, some 7, none, none, none], .call 13 [.agg [vi 2, vi 3, vi 1, vi 2, .rv (.sl 7 (([]).map ItemV.cells)), vs (⟨#[]⟩), vs (⟨#[]⟩), vs (⟨#[]⟩)]] (.tuple [vs ((encodeM (⟨2, 3, 1, 2, [], ⟨#[]⟩, ⟨#[]⟩, ⟨#[]⟩⟩ : MsgV)).1), vi ((encodeM (⟨2, 3, 1, 2, [], ⟨#[]⟩, ⟨#[]⟩, ⟨#[]⟩⟩ : MsgV)).2)]) [] 0 (encodeM_ok (⟨2, 3, 1, 2, [], ⟨#[]⟩, ⟨#[]⟩, ⟨#[]⟩⟩ : MsgV) (by first | assumption | decide | (intro x hx; first | (cases hx; done) | (simp only [List.mem_cons, List.not_mem_nil, or_false] at hx; first | (subst hx; exact ⟨by decide, by decide, by decide⟩) | (rcases hx with rfl | rfl <;> exact ⟨by decide, by decide, by decide⟩))) | omega) (by first | assumption | decide | (intro x hx; first | (cases hx; done) | (simp only [List.mem_cons, List.not_mem_nil, or_false] at hx; first | (subst hx; exact ⟨by decide, by decide, by decide⟩) | (rcases hx with rfl | rfl <;> exact ⟨by decide, by decide, by decide⟩))) | omega) (by first | assumption | decide | (intro x hx; first | (cases hx; done) | (simp only [List.mem_cons, List.not_mem_nil, or_false] at hx; first | (subst hx; exact ⟨by decide, by decide, by decide⟩) | (rcases hx with rfl | rfl <;> exact ⟨by decide, by decide, by decide⟩))) | omega) (by first | assumption | decide | (intro x hx; first | (cases hx; done) | (simp only [List.mem_cons, List.not_mem_nil, or_false] at hx; first | (subst hx; exact ⟨by decide, by decide, by decide⟩) | (rcases hx with rfl | rfl <;> exact ⟨by decide, by decide, by decide⟩))) | omega) (by first | assumption | decide | (intro x hx; first | (cases hx; done) | (simp only [List.mem_cons, List.not_mem_nil, or_false] at hx; first | (subst hx; exact ⟨by decide, by decide, by decide⟩) | (rcases hx with rfl | rfl <;> exact ⟨by decide, by decide, by decide⟩))) | omega)), .run 5] 97 [awakeM_c4, (2, vi ((encodeM (⟨2, 3, 1, 2, [], ⟨#[]⟩, ⟨#[]⟩, ⟨#[]⟩⟩ : MsgV)).2))] [] 0 ?_
 refine AWp.hz [.run 1, .nils 17 [none, none, none, none, some 7, none, none, none], .call 13 [.agg [vi 7, vi 1, vi 0, vi 5, .rv (.sl 7 (([]).map ItemV.cells)), vs (⟨#[]⟩), vs (⟨#[]⟩), vs (⟨#[1, 0]⟩)]] (.tuple [vs ((encodeM (⟨7, 1, 0, 5, [], ⟨#[]⟩, ⟨#[]⟩, ⟨#[1, 0]⟩⟩ : MsgV)).1), vi ((encodeM (⟨7, 1, 0, 5, [], ⟨#[]⟩, ⟨#[]⟩, ⟨#[1, 0]⟩⟩ : MsgV)).2)]) [] 0 (encodeM_ok (⟨7, 1, 0, 5, [], ⟨#[]⟩, ⟨#[]⟩, ⟨#[1, 0]⟩⟩ : MsgV) (by first | assumption | decide | (intro x hx; first | (cases hx; done) | (simp only [List.mem_cons, List.not_mem_nil, or_false] at hx; first | (subst hx; exact ⟨by decide, by decide, by decide⟩) | (rcases hx with rfl | rfl <;> exact ⟨by decide, by decide, by decide⟩))) | omega) (by first | assumption | decide | (intro x hx; first | (cases hx; done) | (simp only [List.mem_cons, List.not_mem_nil, or_false] at hx; first | (subst hx; exact ⟨by decide, by decide, by decide⟩) | (rcases hx with rfl | rfl <;> exact ⟨by decide, by decide, by decide⟩))) | omega) (by first | assumption | decide | (intro x hx; first | (cases hx; done) | (simp only [List.mem_cons, List.not_mem_nil, or_false] at hx; first | (subst hx; exact ⟨by decide, by decide, by decide⟩) | (rcases hx with rfl | rfl <;> exact ⟨by decide, by decide, by decide⟩))) | omega) (by first | assumption | decide | (intro x hx; first | (cases hx; done) | (simp only [List.mem_cons, List.not_mem_nil, or_false] at hx; first | (subst hx; exact ⟨by decide, by decide, by decide⟩) | (rcases hx with rfl | rfl <;> exact ⟨by decide, by decide, by decide⟩))) | omega) (by first | assumption | decide | (intro x hx; first | (cases hx; done) | (simp only [List.mem_cons, List.not_mem_nil, or_false] at hx; first | (subst hx; exact ⟨by decide, by decide, by decide⟩) | (rcases hx with rfl | rfl <;> exact ⟨by decide, by decide, by decide⟩))) | omega)), .run 5] 97 [awakeM_c4, (2, vi ((encodeM (⟨2, 3, 1, 2, [], ⟨#[]⟩, ⟨#[]⟩, ⟨#[]⟩⟩ : MsgV)).2)), awakeM_c3, awakeM_c6] [] 0 ?_
 refine AWp.hz [.call 15 [vs (⟨#[4, 6, 2, 4]⟩)] (.tuple [.agg (avs (MsgV.cells ((decodeM (⟨#[4, 6, 2, 4]⟩)).1))), vi ((decodeM (⟨#[4, 6, 2, 4]⟩)).2)]) [] 0 (decodeM_ok (⟨#[4, 6, 2, 4]⟩) (by first | assumption | decide | (intro x hx; first | (cases hx; done) | (simp only [List.mem_cons, List.not_mem_nil, or_false] at hx; first | (subst hx; exact ⟨by decide, by decide, by decide⟩) | (rcases hx with rfl | rfl <;> exact ⟨by decide, by decide, by decide⟩))) | omega)), .run 6] 97 [awakeM_c4, (2, vi ((encodeM (⟨2, 3, 1, 2, [], ⟨#[]⟩, ⟨#[]⟩, ⟨#[]⟩⟩ : MsgV)).2)), awakeM_c3, awakeM_c6, (5, .ptr 0 0), (6, vi ((decodeM (⟨#[4, 6, 2, 4]⟩)).2))] [awakeM_c5] 1 ?_
 refine AWp.seq ?_
 refine AWp.join (Z 97 [(48, vb (((((encodeM (⟨2, 3, 1, 2, [], ⟨#[]⟩, ⟨#[]⟩, ⟨#[]⟩⟩ : MsgV)).2) != 0) || ((((encodeM (⟨7, 1, 0, 5, [], ⟨#[]⟩, ⟨#[]⟩, ⟨#[1, 0]⟩⟩ : MsgV)).2) != 0) || ((((decodeM (⟨#[4, 6, 2, 4]⟩)).2) != 0) || (!beqS ((encodeM (⟨2, 3, 1, 2, [], ⟨#[]⟩, ⟨#[]⟩, ⟨#[]⟩⟩ : MsgV)).1) (⟨#[4, 6, 2, 4]⟩) || !beqS ((encodeM (⟨7, 1, 0, 5, [], ⟨#[]⟩, ⟨#[]⟩, ⟨#[1, 0]⟩⟩ : MsgV)).1) (⟨#[14, 2, 10, 4, 1, 0]⟩))))) || !(msameM ((decodeM (⟨#[4, 6, 2, 4]⟩)).1) (⟨2, 3, 1, 2, [], ⟨#[]⟩, ⟨#[]⟩, ⟨#[]⟩⟩ : MsgV))))] [] 1) ?_ ?_
 ·
  refine AWp.region ?_
  refine AOps.hg [.run 3] ((((encodeM (⟨2, 3, 1, 2, [], ⟨#[]⟩, ⟨#[]⟩, ⟨#[]⟩⟩ : MsgV)).2) != 0)) 97 (fun b_ => [awakeM_c4, awakeM_c3, awakeM_c6, (5, .ptr 0 0), (6, vi ((decodeM (⟨#[4, 6, 2, 4]⟩)).2)), (27, vb b_)]) [awakeM_c5] 1 (fun hg1 => ?_) (fun hg1 => ?_)
  ·
   refine AOps.he [.run 21] 97 [(48, vb true)] [] 1 ?_
   exact leZ (by rw [hg1]; try kernel_rfl)
  ·
   refine AOps.hg [.run 4] ((((encodeM (⟨7, 1, 0, 5, [], ⟨#[]⟩, ⟨#[]⟩, ⟨#[1, 0]⟩⟩ : MsgV)).2) != 0)) 97 (fun b_ => [awakeM_c4, awakeM_c3, (5, .ptr 0 0), (6, vi ((decodeM (⟨#[4, 6, 2, 4]⟩)).2)), (31, vb b_)]) [awakeM_c5] 1 (fun hg2 => ?_) (fun hg2 => ?_)
   ·
    refine AOps.he [.run 17] 97 [(48, vb true)] [] 1 ?_
    exact leZ (by rw [hg1, hg2]; try kernel_rfl)
   ·
    refine AOps.hg [.run 4] ((((decodeM (⟨#[4, 6, 2, 4]⟩)).2) != 0)) 97 (fun b_ => [awakeM_c4, awakeM_c3, (5, .ptr 0 0), (35, vb b_)]) [awakeM_c5] 1 (fun hg3 => ?_) (fun hg3 => ?_)
    ·
     refine AOps.he [.run 13] 97 [(48, vb true)] [] 1 ?_
     exact leZ (by rw [hg1, hg2, hg3]; try kernel_rfl)
    ·
     refine AOps.hg [.run 4] (!beqS ((encodeM (⟨2, 3, 1, 2, [], ⟨#[]⟩, ⟨#[]⟩, ⟨#[]⟩⟩ : MsgV)).1) (⟨#[4, 6, 2, 4]⟩)) 97 (fun b_ => [awakeM_c3, (5, .ptr 0 0), (39, vb b_)]) [awakeM_c5] 1 (fun hg4 => ?_) (fun hg4 => ?_)
     ·
      refine AOps.he [.run 9] 97 [(48, vb true)] [] 1 ?_
      exact leZ (by rw [hg1, hg2, hg3, hg4]; try kernel_rfl)
     ·
      refine AOps.hg [.run 4] (!beqS ((encodeM (⟨7, 1, 0, 5, [], ⟨#[]⟩, ⟨#[]⟩, ⟨#[1, 0]⟩⟩ : MsgV)).1) (⟨#[14, 2, 10, 4, 1, 0]⟩)) 97 (fun b_ => [(5, .ptr 0 0), (43, vb b_)]) [awakeM_c5] 1 (fun hg5 => ?_) (fun hg5 => ?_)
      ·
       refine AOps.he [.run 5] 97 [(48, vb true)] [] 1 ?_
       exact leZ (by rw [hg1, hg2, hg3, hg4, hg5]; try kernel_rfl)
      ·
       refine AOps.he [.run 2, .nils 45 [none, none, none, none, some 7, none, none, none], .call 17 [.agg (avs (MsgV.cells ((decodeM (⟨#[4, 6, 2, 4]⟩)).1))), .agg [vi 2, vi 3, vi 1, vi 2, .rv (.sl 7 (([]).map ItemV.cells)), vs (⟨#[]⟩), vs (⟨#[]⟩), vs (⟨#[]⟩)]] (vb (msameM ((decodeM (⟨#[4, 6, 2, 4]⟩)).1) (⟨2, 3, 1, 2, [], ⟨#[]⟩, ⟨#[]⟩, ⟨#[]⟩⟩ : MsgV))) [] 0 (msameM_ok ((decodeM (⟨#[4, 6, 2, 4]⟩)).1) (⟨2, 3, 1, 2, [], ⟨#[]⟩, ⟨#[]⟩, ⟨#[]⟩⟩ : MsgV)), .run 2] 97 [(48, vb (!(msameM ((decodeM (⟨#[4, 6, 2, 4]⟩)).1) (⟨2, 3, 1, 2, [], ⟨#[]⟩, ⟨#[]⟩, ⟨#[]⟩⟩ : MsgV))))] [] 1 ?_
       exact leZ (by rw [hg1, hg2, hg3, hg4, hg5]; try kernel_rfl)
 ·
  refine AWp.cnd ((((((encodeM (⟨2, 3, 1, 2, [], ⟨#[]⟩, ⟨#[]⟩, ⟨#[]⟩⟩ : MsgV)).2) != 0) || ((((encodeM (⟨7, 1, 0, 5, [], ⟨#[]⟩, ⟨#[]⟩, ⟨#[1, 0]⟩⟩ : MsgV)).2) != 0) || ((((decodeM (⟨#[4, 6, 2, 4]⟩)).2) != 0) || (!beqS ((encodeM (⟨2, 3, 1, 2, [], ⟨#[]⟩, ⟨#[]⟩, ⟨#[]⟩⟩ : MsgV)).1) (⟨#[4, 6, 2, 4]⟩) || !beqS ((encodeM (⟨7, 1, 0, 5, [], ⟨#[]⟩, ⟨#[]⟩, ⟨#[1, 0]⟩⟩ : MsgV)).1) (⟨#[14, 2, 10, 4, 1, 0]⟩))))) || !(msameM ((decodeM (⟨#[4, 6, 2, 4]⟩)).1) (⟨2, 3, 1, 2, [], ⟨#[]⟩, ⟨#[]⟩, ⟨#[]⟩⟩ : MsgV)))) (fun h6 => ?_) (fun h6 => ?_)
  ·
   refine AWp.hz [.run 1] 97 [(0, vb false)] [] 1 ?_
   refine AWp.ret ?_
   exact leafR (r := vb false) (by unfold awakeM; (try rw [h6]); try kernel_rfl)
  ·
   have h6l := or_fl h6
   have h6ll := or_fl h6l
   have h6lr := or_fr h6l
   have h6lrl := or_fl h6lr
   have h6lrr := or_fr h6lr
   have h6lrrl := or_fl h6lrr
   have h6lrrr := or_fr h6lrr
   have h6r := or_fr h6
   refine AWp.skip ?_
   refine AWp.hz [.run 3] 97 [(7, .ptr 1 0)] [(1, .box 51 [vi 4, vs (⟨#[115, 109, 111, 107, 101]⟩), vs (⟨#[97, 108, 97, 114, 109]⟩)])] 2 ?_
   refine AWp.hz [.run 5] 97 [(8, .ptr 2 0)] [awakeM_c2] 3 ?_
   refine AWp.hz [.call 20 [] (.rv (.sl 4 ((rstdM ).map Cluster.cells))) [] 0 (rstdM_ok ), .lit 9 1 (List.map strC [⟨#[115, 109, 111, 107, 101]⟩, ⟨#[108, 101, 118, 101, 108]⟩]), .run 1, .lit 60 7 (List.map Dev.cells [(⟨4, 0, 0, false, 0, ⟨#[104, 97, 108, 108]⟩, [⟨#[115, 109, 111, 107, 101]⟩, ⟨#[108, 101, 118, 101, 108]⟩]⟩ : Dev)]), .run 3] 97 [(8, .ptr 2 0), (9, .ptr 3 0)] [awakeM_c1, awakeM_c2] 4 ?_
   refine AWp.seq ?_
   refine AWp.join (Z 97 [(8, .ptr 2 0), (9, .ptr 3 0), (75, vb (((mCheckM (⟨2, 3, 0, 0, [], ⟨#[]⟩, ⟨#[110]⟩, ⟨#[]⟩⟩ : MsgV) != 4) || (mCheckM (⟨1, 3, 0, 0, [(⟨⟨4, ⟨#[115, 109, 111, 107, 101]⟩, ⟨#[97, 108, 97, 114, 109]⟩⟩, ⟨1, 1, ⟨#[]⟩⟩, 1⟩ : ItemV)], ⟨#[]⟩, ⟨#[]⟩, ⟨#[]⟩⟩ : MsgV) != 1)) || (mCheckM (⟨1, 4, 0, 0, [(⟨⟨4, ⟨#[115, 109, 111, 107, 101]⟩, ⟨#[97, 108, 97, 114, 109]⟩⟩, ⟨1, 1, ⟨#[]⟩⟩, 1⟩ : ItemV), (⟨⟨4, ⟨#[115, 109, 111, 107, 101]⟩, ⟨#[97, 108, 97, 114, 109]⟩⟩, ⟨1, 1, ⟨#[]⟩⟩, 1⟩ : ItemV)], ⟨#[]⟩, ⟨#[]⟩, ⟨#[]⟩⟩ : MsgV) != 14)))] [(3, .box 40 [.rv (.sl 4 ((rstdM ).map Cluster.cells)), .rv (.sl 7 (([(⟨4, 0, 0, false, 0, ⟨#[104, 97, 108, 108]⟩, [⟨#[115, 109, 111, 107, 101]⟩, ⟨#[108, 101, 118, 101, 108]⟩]⟩ : Dev)]).map Dev.cells))]), (2, .box 55 [vi 4, vs (⟨#[115, 109, 111, 107, 101]⟩), vs (⟨#[97, 108, 97, 114, 109]⟩), vi 1, vi 1, vs (⟨#[]⟩), vi 1])] 4) ?_ ?_
   ·
    refine AWp.region ?_
    refine AOps.hg [.run 1, .nils 58 [none, none, none, none, some 7, none, none, none], .call 11 [.agg [vi 2, vi 3, vi 0, vi 0, .rv (.sl 7 (([]).map ItemV.cells)), vs (⟨#[]⟩), vs (⟨#[110]⟩), vs (⟨#[]⟩)]] (vi (mCheckM (⟨2, 3, 0, 0, [], ⟨#[]⟩, ⟨#[110]⟩, ⟨#[]⟩⟩ : MsgV))) [] 0 (mCheckM_ok (⟨2, 3, 0, 0, [], ⟨#[]⟩, ⟨#[110]⟩, ⟨#[]⟩⟩ : MsgV) (by first | assumption | decide | (intro x hx; first | (cases hx; done) | (simp only [List.mem_cons, List.not_mem_nil, or_false] at hx; first | (subst hx; exact ⟨by decide, by decide, by decide⟩) | (rcases hx with rfl | rfl <;> exact ⟨by decide, by decide, by decide⟩))) | omega)), .run 2] ((mCheckM (⟨2, 3, 0, 0, [], ⟨#[]⟩, ⟨#[110]⟩, ⟨#[]⟩⟩ : MsgV) != 4)) 97 (fun b_ => [(8, .ptr 2 0), (9, .ptr 3 0), (61, vb b_)]) [awakeM_c1, awakeM_c2] 4 (fun hg7 => ?_) (fun hg7 => ?_)
    ·
     refine AOps.he [.run 14] 97 [(8, .ptr 2 0), (9, .ptr 3 0), (75, vb true)] [awakeM_c1, awakeM_c2] 4 ?_
     exact leZ (by rw [hg7]; try kernel_rfl)
    ·
     refine AOps.hg [.run 1, .lit 55 7 (List.map ItemV.cells [(⟨⟨4, ⟨#[115, 109, 111, 107, 101]⟩, ⟨#[97, 108, 97, 114, 109]⟩⟩, ⟨1, 1, ⟨#[]⟩⟩, 1⟩ : ItemV)]), .run 1, .call 11 [.agg [vi 1, vi 3, vi 0, vi 0, .rv (.sl 7 (([(⟨⟨4, ⟨#[115, 109, 111, 107, 101]⟩, ⟨#[97, 108, 97, 114, 109]⟩⟩, ⟨1, 1, ⟨#[]⟩⟩, 1⟩ : ItemV)]).map ItemV.cells)), vs (⟨#[]⟩), vs (⟨#[]⟩), vs (⟨#[]⟩)]] (vi (mCheckM (⟨1, 3, 0, 0, [(⟨⟨4, ⟨#[115, 109, 111, 107, 101]⟩, ⟨#[97, 108, 97, 114, 109]⟩⟩, ⟨1, 1, ⟨#[]⟩⟩, 1⟩ : ItemV)], ⟨#[]⟩, ⟨#[]⟩, ⟨#[]⟩⟩ : MsgV))) [] 0 (mCheckM_ok (⟨1, 3, 0, 0, [(⟨⟨4, ⟨#[115, 109, 111, 107, 101]⟩, ⟨#[97, 108, 97, 114, 109]⟩⟩, ⟨1, 1, ⟨#[]⟩⟩, 1⟩ : ItemV)], ⟨#[]⟩, ⟨#[]⟩, ⟨#[]⟩⟩ : MsgV) (by first | assumption | decide | (intro x hx; first | (cases hx; done) | (simp only [List.mem_cons, List.not_mem_nil, or_false] at hx; first | (subst hx; exact ⟨by decide, by decide, by decide⟩) | (rcases hx with rfl | rfl <;> exact ⟨by decide, by decide, by decide⟩))) | omega)), .run 3] ((mCheckM (⟨1, 3, 0, 0, [(⟨⟨4, ⟨#[115, 109, 111, 107, 101]⟩, ⟨#[97, 108, 97, 114, 109]⟩⟩, ⟨1, 1, ⟨#[]⟩⟩, 1⟩ : ItemV)], ⟨#[]⟩, ⟨#[]⟩, ⟨#[]⟩⟩ : MsgV) != 1)) 97 (fun b_ => [(8, .ptr 2 0), (9, .ptr 3 0), (68, vb b_)]) [awakeM_c1, awakeM_c2] 4 (fun hg8 => ?_) (fun hg8 => ?_)
     ·
      refine AOps.he [.run 7] 97 [(8, .ptr 2 0), (9, .ptr 3 0), (75, vb true)] [awakeM_c1, awakeM_c2] 4 ?_
      exact leZ (by rw [hg7, hg8]; try kernel_rfl)
     ·
      refine AOps.he [.run 2, .lit 55 7 (List.map ItemV.cells [(⟨⟨4, ⟨#[115, 109, 111, 107, 101]⟩, ⟨#[97, 108, 97, 114, 109]⟩⟩, ⟨1, 1, ⟨#[]⟩⟩, 1⟩ : ItemV), (⟨⟨4, ⟨#[115, 109, 111, 107, 101]⟩, ⟨#[97, 108, 97, 114, 109]⟩⟩, ⟨1, 1, ⟨#[]⟩⟩, 1⟩ : ItemV)]), .run 1, .call 11 [.agg [vi 1, vi 4, vi 0, vi 0, .rv (.sl 7 (([(⟨⟨4, ⟨#[115, 109, 111, 107, 101]⟩, ⟨#[97, 108, 97, 114, 109]⟩⟩, ⟨1, 1, ⟨#[]⟩⟩, 1⟩ : ItemV), (⟨⟨4, ⟨#[115, 109, 111, 107, 101]⟩, ⟨#[97, 108, 97, 114, 109]⟩⟩, ⟨1, 1, ⟨#[]⟩⟩, 1⟩ : ItemV)]).map ItemV.cells)), vs (⟨#[]⟩), vs (⟨#[]⟩), vs (⟨#[]⟩)]] (vi (mCheckM (⟨1, 4, 0, 0, [(⟨⟨4, ⟨#[115, 109, 111, 107, 101]⟩, ⟨#[97, 108, 97, 114, 109]⟩⟩, ⟨1, 1, ⟨#[]⟩⟩, 1⟩ : ItemV), (⟨⟨4, ⟨#[115, 109, 111, 107, 101]⟩, ⟨#[97, 108, 97, 114, 109]⟩⟩, ⟨1, 1, ⟨#[]⟩⟩, 1⟩ : ItemV)], ⟨#[]⟩, ⟨#[]⟩, ⟨#[]⟩⟩ : MsgV))) [] 0 (mCheckM_ok (⟨1, 4, 0, 0, [(⟨⟨4, ⟨#[115, 109, 111, 107, 101]⟩, ⟨#[97, 108, 97, 114, 109]⟩⟩, ⟨1, 1, ⟨#[]⟩⟩, 1⟩ : ItemV), (⟨⟨4, ⟨#[115, 109, 111, 107, 101]⟩, ⟨#[97, 108, 97, 114, 109]⟩⟩, ⟨1, 1, ⟨#[]⟩⟩, 1⟩ : ItemV)], ⟨#[]⟩, ⟨#[]⟩, ⟨#[]⟩⟩ : MsgV) (by first | assumption | decide | (intro x hx; first | (cases hx; done) | (simp only [List.mem_cons, List.not_mem_nil, or_false] at hx; first | (subst hx; exact ⟨by decide, by decide, by decide⟩) | (rcases hx with rfl | rfl <;> exact ⟨by decide, by decide, by decide⟩))) | omega)), .run 2] 97 [(8, .ptr 2 0), (9, .ptr 3 0), (75, vb (mCheckM (⟨1, 4, 0, 0, [(⟨⟨4, ⟨#[115, 109, 111, 107, 101]⟩, ⟨#[97, 108, 97, 114, 109]⟩⟩, ⟨1, 1, ⟨#[]⟩⟩, 1⟩ : ItemV), (⟨⟨4, ⟨#[115, 109, 111, 107, 101]⟩, ⟨#[97, 108, 97, 114, 109]⟩⟩, ⟨1, 1, ⟨#[]⟩⟩, 1⟩ : ItemV)], ⟨#[]⟩, ⟨#[]⟩, ⟨#[]⟩⟩ : MsgV) != 14))] [awakeM_c1, awakeM_c2] 4 ?_
      exact leZ (by rw [hg7, hg8]; try kernel_rfl)
   ·
    refine AWp.cnd ((((mCheckM (⟨2, 3, 0, 0, [], ⟨#[]⟩, ⟨#[110]⟩, ⟨#[]⟩⟩ : MsgV) != 4) || (mCheckM (⟨1, 3, 0, 0, [(⟨⟨4, ⟨#[115, 109, 111, 107, 101]⟩, ⟨#[97, 108, 97, 114, 109]⟩⟩, ⟨1, 1, ⟨#[]⟩⟩, 1⟩ : ItemV)], ⟨#[]⟩, ⟨#[]⟩, ⟨#[]⟩⟩ : MsgV) != 1)) || (mCheckM (⟨1, 4, 0, 0, [(⟨⟨4, ⟨#[115, 109, 111, 107, 101]⟩, ⟨#[97, 108, 97, 114, 109]⟩⟩, ⟨1, 1, ⟨#[]⟩⟩, 1⟩ : ItemV), (⟨⟨4, ⟨#[115, 109, 111, 107, 101]⟩, ⟨#[97, 108, 97, 114, 109]⟩⟩, ⟨1, 1, ⟨#[]⟩⟩, 1⟩ : ItemV)], ⟨#[]⟩, ⟨#[]⟩, ⟨#[]⟩⟩ : MsgV) != 14))) (fun h9 => ?_) (fun h9 => ?_)
    ·
     refine AWp.hz [.run 1] 97 [(0, vb false)] [] 4 ?_
     refine AWp.ret ?_
     exact leafR (r := vb false) (by unfold awakeM; (try rw [h6]); (try rw [h9]); try kernel_rfl)
    ·
     have h9l := or_fl h9
     have h9ll := or_fl h9l
     have h9lr := or_fr h9l
     have h9r := or_fr h9
     refine AWp.skip ?_
     refine AWp.hz [.run 5] 97 [(8, .ptr 2 0), (9, .ptr 3 0), (10, .ptr 4 0)] [(4, .box 55 [vi 4, vs (⟨#[108, 101, 118, 101, 108]⟩), vs (⟨#[108, 101, 118, 101, 108]⟩), vi 2, vi 1, vs (⟨#[]⟩), vi 1]), awakeM_c1, awakeM_c2] 5 ?_
     refine AWp.join (Z 97 [(0, vb ((urgentM (⟨rstdM , [(⟨4, 0, 0, false, 0, ⟨#[104, 97, 108, 108]⟩, [⟨#[115, 109, 111, 107, 101]⟩, ⟨#[108, 101, 118, 101, 108]⟩]⟩ : Dev)]⟩ : Home) (⟨1, 4, 0, 0, [(⟨⟨4, ⟨#[115, 109, 111, 107, 101]⟩, ⟨#[97, 108, 97, 114, 109]⟩⟩, ⟨1, 1, ⟨#[]⟩⟩, 1⟩ : ItemV)], ⟨#[]⟩, ⟨#[]⟩, ⟨#[]⟩⟩ : MsgV) && !(urgentM (⟨rstdM , [(⟨4, 0, 0, false, 0, ⟨#[104, 97, 108, 108]⟩, [⟨#[115, 109, 111, 107, 101]⟩, ⟨#[108, 101, 118, 101, 108]⟩]⟩ : Dev)]⟩ : Home) (⟨1, 4, 0, 0, [(⟨⟨4, ⟨#[108, 101, 118, 101, 108]⟩, ⟨#[108, 101, 118, 101, 108]⟩⟩, ⟨2, 1, ⟨#[]⟩⟩, 1⟩ : ItemV)], ⟨#[]⟩, ⟨#[]⟩, ⟨#[]⟩⟩ : MsgV))) && urgentM (⟨rstdM , [(⟨4, 0, 0, false, 0, ⟨#[104, 97, 108, 108]⟩, [⟨#[115, 109, 111, 107, 101]⟩, ⟨#[108, 101, 118, 101, 108]⟩]⟩ : Dev)]⟩ : Home) (⟨5, 4, 0, 0, [], ⟨#[115, 109, 111, 107, 101]⟩, ⟨#[116, 101, 115, 116]⟩, ⟨#[]⟩⟩ : MsgV)))] [] 5) ?_ ?_
     ·
      refine AWp.region ?_
      refine AOps.hg [.run 2, .lit 55 7 (List.map ItemV.cells [(⟨⟨4, ⟨#[115, 109, 111, 107, 101]⟩, ⟨#[97, 108, 97, 114, 109]⟩⟩, ⟨1, 1, ⟨#[]⟩⟩, 1⟩ : ItemV)]), .run 1, .call 19 [.agg [.rv (.sl 4 ((rstdM ).map Cluster.cells)), .rv (.sl 7 (([(⟨4, 0, 0, false, 0, ⟨#[104, 97, 108, 108]⟩, [⟨#[115, 109, 111, 107, 101]⟩, ⟨#[108, 101, 118, 101, 108]⟩]⟩ : Dev)]).map Dev.cells))], .agg [vi 1, vi 4, vi 0, vi 0, .rv (.sl 7 (([(⟨⟨4, ⟨#[115, 109, 111, 107, 101]⟩, ⟨#[97, 108, 97, 114, 109]⟩⟩, ⟨1, 1, ⟨#[]⟩⟩, 1⟩ : ItemV)]).map ItemV.cells)), vs (⟨#[]⟩), vs (⟨#[]⟩), vs (⟨#[]⟩)]] (vb (urgentM (⟨rstdM , [(⟨4, 0, 0, false, 0, ⟨#[104, 97, 108, 108]⟩, [⟨#[115, 109, 111, 107, 101]⟩, ⟨#[108, 101, 118, 101, 108]⟩]⟩ : Dev)]⟩ : Home) (⟨1, 4, 0, 0, [(⟨⟨4, ⟨#[115, 109, 111, 107, 101]⟩, ⟨#[97, 108, 97, 114, 109]⟩⟩, ⟨1, 1, ⟨#[]⟩⟩, 1⟩ : ItemV)], ⟨#[]⟩, ⟨#[]⟩, ⟨#[]⟩⟩ : MsgV))) [] 0 (urgentM_ok (⟨rstdM , [(⟨4, 0, 0, false, 0, ⟨#[104, 97, 108, 108]⟩, [⟨#[115, 109, 111, 107, 101]⟩, ⟨#[108, 101, 118, 101, 108]⟩]⟩ : Dev)]⟩ : Home) (⟨1, 4, 0, 0, [(⟨⟨4, ⟨#[115, 109, 111, 107, 101]⟩, ⟨#[97, 108, 97, 114, 109]⟩⟩, ⟨1, 1, ⟨#[]⟩⟩, 1⟩ : ItemV)], ⟨#[]⟩, ⟨#[]⟩, ⟨#[]⟩⟩ : MsgV) (by first | assumption | decide | (intro x hx; first | (cases hx; done) | (simp only [List.mem_cons, List.not_mem_nil, or_false] at hx; first | (subst hx; exact ⟨by decide, by decide, by decide⟩) | (rcases hx with rfl | rfl <;> exact ⟨by decide, by decide, by decide⟩))) | omega)), .run 1] (urgentM (⟨rstdM , [(⟨4, 0, 0, false, 0, ⟨#[104, 97, 108, 108]⟩, [⟨#[115, 109, 111, 107, 101]⟩, ⟨#[108, 101, 118, 101, 108]⟩]⟩ : Dev)]⟩ : Home) (⟨1, 4, 0, 0, [(⟨⟨4, ⟨#[115, 109, 111, 107, 101]⟩, ⟨#[97, 108, 97, 114, 109]⟩⟩, ⟨1, 1, ⟨#[]⟩⟩, 1⟩ : ItemV)], ⟨#[]⟩, ⟨#[]⟩, ⟨#[]⟩⟩ : MsgV)) 97 (fun b_ => [(9, .ptr 3 0), (10, .ptr 4 0), (84, vb b_)]) [(4, .box 55 [vi 4, vs (⟨#[108, 101, 118, 101, 108]⟩), vs (⟨#[108, 101, 118, 101, 108]⟩), vi 2, vi 1, vs (⟨#[]⟩), vi 1]), awakeM_c1] 5 (fun hg10 => ?_) (fun hg10 => ?_)
      ·
       refine AOps.hg [.run 2, .lit 55 7 (List.map ItemV.cells [(⟨⟨4, ⟨#[108, 101, 118, 101, 108]⟩, ⟨#[108, 101, 118, 101, 108]⟩⟩, ⟨2, 1, ⟨#[]⟩⟩, 1⟩ : ItemV)]), .run 1, .call 19 [.agg [.rv (.sl 4 ((rstdM ).map Cluster.cells)), .rv (.sl 7 (([(⟨4, 0, 0, false, 0, ⟨#[104, 97, 108, 108]⟩, [⟨#[115, 109, 111, 107, 101]⟩, ⟨#[108, 101, 118, 101, 108]⟩]⟩ : Dev)]).map Dev.cells))], .agg [vi 1, vi 4, vi 0, vi 0, .rv (.sl 7 (([(⟨⟨4, ⟨#[108, 101, 118, 101, 108]⟩, ⟨#[108, 101, 118, 101, 108]⟩⟩, ⟨2, 1, ⟨#[]⟩⟩, 1⟩ : ItemV)]).map ItemV.cells)), vs (⟨#[]⟩), vs (⟨#[]⟩), vs (⟨#[]⟩)]] (vb (urgentM (⟨rstdM , [(⟨4, 0, 0, false, 0, ⟨#[104, 97, 108, 108]⟩, [⟨#[115, 109, 111, 107, 101]⟩, ⟨#[108, 101, 118, 101, 108]⟩]⟩ : Dev)]⟩ : Home) (⟨1, 4, 0, 0, [(⟨⟨4, ⟨#[108, 101, 118, 101, 108]⟩, ⟨#[108, 101, 118, 101, 108]⟩⟩, ⟨2, 1, ⟨#[]⟩⟩, 1⟩ : ItemV)], ⟨#[]⟩, ⟨#[]⟩, ⟨#[]⟩⟩ : MsgV))) [] 0 (urgentM_ok (⟨rstdM , [(⟨4, 0, 0, false, 0, ⟨#[104, 97, 108, 108]⟩, [⟨#[115, 109, 111, 107, 101]⟩, ⟨#[108, 101, 118, 101, 108]⟩]⟩ : Dev)]⟩ : Home) (⟨1, 4, 0, 0, [(⟨⟨4, ⟨#[108, 101, 118, 101, 108]⟩, ⟨#[108, 101, 118, 101, 108]⟩⟩, ⟨2, 1, ⟨#[]⟩⟩, 1⟩ : ItemV)], ⟨#[]⟩, ⟨#[]⟩, ⟨#[]⟩⟩ : MsgV) (by first | assumption | decide | (intro x hx; first | (cases hx; done) | (simp only [List.mem_cons, List.not_mem_nil, or_false] at hx; first | (subst hx; exact ⟨by decide, by decide, by decide⟩) | (rcases hx with rfl | rfl <;> exact ⟨by decide, by decide, by decide⟩))) | omega)), .run 3] (!(urgentM (⟨rstdM , [(⟨4, 0, 0, false, 0, ⟨#[104, 97, 108, 108]⟩, [⟨#[115, 109, 111, 107, 101]⟩, ⟨#[108, 101, 118, 101, 108]⟩]⟩ : Dev)]⟩ : Home) (⟨1, 4, 0, 0, [(⟨⟨4, ⟨#[108, 101, 118, 101, 108]⟩, ⟨#[108, 101, 118, 101, 108]⟩⟩, ⟨2, 1, ⟨#[]⟩⟩, 1⟩ : ItemV)], ⟨#[]⟩, ⟨#[]⟩, ⟨#[]⟩⟩ : MsgV))) 97 (fun b_ => [(9, .ptr 3 0), (92, vb b_)]) [awakeM_c1] 5 (fun hg11 => ?_) (fun hg11 => ?_)
       ·
        refine AOps.he [.run 2, .nils 94 [none, none, none, none, some 7, none, none, none], .call 19 [.agg [.rv (.sl 4 ((rstdM ).map Cluster.cells)), .rv (.sl 7 (([(⟨4, 0, 0, false, 0, ⟨#[104, 97, 108, 108]⟩, [⟨#[115, 109, 111, 107, 101]⟩, ⟨#[108, 101, 118, 101, 108]⟩]⟩ : Dev)]).map Dev.cells))], .agg [vi 5, vi 4, vi 0, vi 0, .rv (.sl 7 (([]).map ItemV.cells)), vs (⟨#[115, 109, 111, 107, 101]⟩), vs (⟨#[116, 101, 115, 116]⟩), vs (⟨#[]⟩)]] (vb (urgentM (⟨rstdM , [(⟨4, 0, 0, false, 0, ⟨#[104, 97, 108, 108]⟩, [⟨#[115, 109, 111, 107, 101]⟩, ⟨#[108, 101, 118, 101, 108]⟩]⟩ : Dev)]⟩ : Home) (⟨5, 4, 0, 0, [], ⟨#[115, 109, 111, 107, 101]⟩, ⟨#[116, 101, 115, 116]⟩, ⟨#[]⟩⟩ : MsgV))) [] 0 (urgentM_ok (⟨rstdM , [(⟨4, 0, 0, false, 0, ⟨#[104, 97, 108, 108]⟩, [⟨#[115, 109, 111, 107, 101]⟩, ⟨#[108, 101, 118, 101, 108]⟩]⟩ : Dev)]⟩ : Home) (⟨5, 4, 0, 0, [], ⟨#[115, 109, 111, 107, 101]⟩, ⟨#[116, 101, 115, 116]⟩, ⟨#[]⟩⟩ : MsgV) (by first | assumption | decide | (intro x hx; first | (cases hx; done) | (simp only [List.mem_cons, List.not_mem_nil, or_false] at hx; first | (subst hx; exact ⟨by decide, by decide, by decide⟩) | (rcases hx with rfl | rfl <;> exact ⟨by decide, by decide, by decide⟩))) | omega)), .run 2] 97 [(0, vb (urgentM (⟨rstdM , [(⟨4, 0, 0, false, 0, ⟨#[104, 97, 108, 108]⟩, [⟨#[115, 109, 111, 107, 101]⟩, ⟨#[108, 101, 118, 101, 108]⟩]⟩ : Dev)]⟩ : Home) (⟨5, 4, 0, 0, [], ⟨#[115, 109, 111, 107, 101]⟩, ⟨#[116, 101, 115, 116]⟩, ⟨#[]⟩⟩ : MsgV)))] [] 5 ?_
        exact leZ (by rw [hg10, hg11]; try kernel_rfl)
       ·
        refine AOps.he [.run 5] 97 [(0, vb false)] [] 5 ?_
        exact leZ (by rw [hg10, hg11]; try kernel_rfl)
      ·
       refine AOps.he [.run 13] 97 [(0, vb false)] [] 5 ?_
       exact leZ (by rw [hg10]; try kernel_rfl)
     ·
      refine AWp.ret ?_
      exact leafR (r := vb ((urgentM (⟨rstdM , [(⟨4, 0, 0, false, 0, ⟨#[104, 97, 108, 108]⟩, [⟨#[115, 109, 111, 107, 101]⟩, ⟨#[108, 101, 118, 101, 108]⟩]⟩ : Dev)]⟩ : Home) (⟨1, 4, 0, 0, [(⟨⟨4, ⟨#[115, 109, 111, 107, 101]⟩, ⟨#[97, 108, 97, 114, 109]⟩⟩, ⟨1, 1, ⟨#[]⟩⟩, 1⟩ : ItemV)], ⟨#[]⟩, ⟨#[]⟩, ⟨#[]⟩⟩ : MsgV) && !(urgentM (⟨rstdM , [(⟨4, 0, 0, false, 0, ⟨#[104, 97, 108, 108]⟩, [⟨#[115, 109, 111, 107, 101]⟩, ⟨#[108, 101, 118, 101, 108]⟩]⟩ : Dev)]⟩ : Home) (⟨1, 4, 0, 0, [(⟨⟨4, ⟨#[108, 101, 118, 101, 108]⟩, ⟨#[108, 101, 118, 101, 108]⟩⟩, ⟨2, 1, ⟨#[]⟩⟩, 1⟩ : ItemV)], ⟨#[]⟩, ⟨#[]⟩, ⟨#[]⟩⟩ : MsgV))) && urgentM (⟨rstdM , [(⟨4, 0, 0, false, 0, ⟨#[104, 97, 108, 108]⟩, [⟨#[115, 109, 111, 107, 101]⟩, ⟨#[108, 101, 118, 101, 108]⟩]⟩ : Dev)]⟩ : Home) (⟨5, 4, 0, 0, [], ⟨#[115, 109, 111, 107, 101]⟩, ⟨#[116, 101, 115, 116]⟩, ⟨#[]⟩⟩ : MsgV))) (by unfold awakeM; (try rw [h6]); (try rw [h9]); try kernel_rfl)
def lDecodesM (s : ByteArray) : Bool :=
 (bif decide ((s.size : Int) > 1200) then awakeM  else ((msameM ((decodeM s).1) ((rdecodeM s).1) && (((decodeM s).2) == ((rdecodeM s).2))) && awakeM ))
theorem lDecodesM_ok (s : ByteArray) :
 ACalls Try.prog G_ 5 [vs s] [] 0 (fun r τ => r = vb (lDecodesM s) ∧ τ = []) := by
 refine ACalls.body Try.func5 rfl 32 [(0, vs s)] ?_
 refine AWp.hz [.run 1] 32 [(0, vs s)] [] 0 ?_
 refine AWp.seq ?_
 refine AWp.hz [.run 3] 32 [(0, vs s), (9, vb (decide ((s.size : Int) > 1200)))] [] 0 ?_
 refine AWp.cnd (decide ((s.size : Int) > 1200)) (fun h1 => ?_) (fun h1 => ?_)
 ·
  have h1' := of_decide_eq_true h1
  refine AWp.hz [.call 10 [] (vb (awakeM )) [] 0 (awakeM_ok ), .run 1] 32 [(2, vb (awakeM ))] [] 0 ?_
  refine AWp.ret ?_
  exact leafR (r := vb (awakeM )) (by unfold lDecodesM; (try rw [h1]); try kernel_rfl)
 ·
  have h1' := of_decide_eq_false h1
  refine AWp.skip ?_
  refine AWp.hz [.run 1, .call 15 [vs s] (.tuple [.agg (avs (MsgV.cells ((decodeM s).1))), vi ((decodeM s).2)]) [] 0 (decodeM_ok s (by first | with_reducible assumption | with_reducible exact small_d (by with_reducible assumption) | with_reducible exact small_i (by with_reducible assumption) | with_reducible exact small_l (by with_reducible assumption) | with_reducible exact small_c (by with_reducible assumption) | with_reducible exact small_n (by with_reducible assumption) | with_reducible exact dec_d (by with_reducible assumption) | with_reducible exact dec_i (by with_reducible assumption) | with_reducible exact dec_l (by with_reducible assumption) | with_reducible exact dec_c (by with_reducible assumption) | with_reducible exact dec_n (by with_reducible assumption) | with_reducible exact app_size (by with_reducible assumption) (Nat.le_refl _) | with_reducible exact cut_size (by with_reducible assumption) | omega)), .run 6] 32 [(0, vs s), (3, .ptr 0 0), (4, vi ((decodeM s).2))] [(0, .box 24 (avs (MsgV.cells ((decodeM s).1))))] 1 ?_
  refine AWp.hz [.run 1, .call 16 [vs s] (.tuple [.agg (avs (MsgV.cells ((rdecodeM s).1))), vi ((rdecodeM s).2)]) [] 0 (rdecodeM_ok s (by first | with_reducible assumption | with_reducible exact small_d (by with_reducible assumption) | with_reducible exact small_i (by with_reducible assumption) | with_reducible exact small_l (by with_reducible assumption) | with_reducible exact small_c (by with_reducible assumption) | with_reducible exact small_n (by with_reducible assumption) | with_reducible exact dec_d (by with_reducible assumption) | with_reducible exact dec_i (by with_reducible assumption) | with_reducible exact dec_l (by with_reducible assumption) | with_reducible exact dec_c (by with_reducible assumption) | with_reducible exact dec_n (by with_reducible assumption) | with_reducible exact app_size (by with_reducible assumption) (Nat.le_refl _) | with_reducible exact cut_size (by with_reducible assumption) | omega)), .run 6] 32 [(3, .ptr 0 0), (4, vi ((decodeM s).2)), (5, .ptr 1 0), (6, vi ((rdecodeM s).2))] [(1, .box 24 (avs (MsgV.cells ((rdecodeM s).1)))), (0, .box 24 (avs (MsgV.cells ((decodeM s).1))))] 2 ?_
  refine AWp.join (Z 32 [(2, vb ((msameM ((decodeM s).1) ((rdecodeM s).1) && (((decodeM s).2) == ((rdecodeM s).2))) && awakeM ))] [] 2) ?_ ?_
  ·
   refine AWp.region ?_
   refine AOps.hg [.run 2, .call 17 [.agg (avs (MsgV.cells ((decodeM s).1))), .agg (avs (MsgV.cells ((rdecodeM s).1)))] (vb (msameM ((decodeM s).1) ((rdecodeM s).1))) [] 0 (msameM_ok ((decodeM s).1) ((rdecodeM s).1)), .run 1] (msameM ((decodeM s).1) ((rdecodeM s).1)) 32 (fun b_ => [(4, vi ((decodeM s).2)), (6, vi ((rdecodeM s).2)), (24, vb b_)]) [] 2 (fun hg2 => ?_) (fun hg2 => ?_)
   ·
    refine AOps.hg [.run 5] ((((decodeM s).2) == ((rdecodeM s).2))) 32 (fun b_ => [(29, vb b_)]) [] 2 (fun hg3 => ?_) (fun hg3 => ?_)
    ·
     refine AOps.he [.call 10 [] (vb (awakeM )) [] 0 (awakeM_ok ), .run 2] 32 [(2, vb (awakeM ))] [] 2 ?_
     exact leZ (by rw [hg2, hg3]; try kernel_rfl)
    ·
     refine AOps.he [.run 3] 32 [(2, vb false)] [] 2 ?_
     exact leZ (by rw [hg2, hg3]; try kernel_rfl)
   ·
    refine AOps.he [.run 8] 32 [(2, vb false)] [] 2 ?_
    exact leZ (by rw [hg2]; try kernel_rfl)
  ·
   refine AWp.ret ?_
   exact leafR (r := vb ((msameM ((decodeM s).1) ((rdecodeM s).1) && (((decodeM s).2) == ((rdecodeM s).2))) && awakeM )) (by unfold lDecodesM; (try rw [h1]); try kernel_rfl)
end Go.Proofs.Ytnnlaccdendkpaa
