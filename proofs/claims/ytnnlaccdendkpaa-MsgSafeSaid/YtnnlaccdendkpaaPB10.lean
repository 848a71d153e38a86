/- The statements: the contracts. -/
import Derived.Test.YtnnlaccdendkpaaPRb
namespace Go.Proofs.Ytnnlaccdendkpaa
open Go Go.Av Go.Hh Go.Proofs
set_option maxRecDepth 100000
set_option maxHeartbeats 4000000
def awakeM  : Bool :=
 (bif ((((((encodeM (⟨2, 3, 1, 2, [], ⟨#[]⟩, ⟨#[]⟩, ⟨#[]⟩⟩ : MsgV)).2) != 0) || ((((encodeM (⟨7, 1, 0, 5, [], ⟨#[]⟩, ⟨#[]⟩, ⟨#[1, 0]⟩⟩ : MsgV)).2) != 0) || ((((decodeM (⟨#[4, 6, 2, 4]⟩)).2) != 0) || (!beqS ((encodeM (⟨2, 3, 1, 2, [], ⟨#[]⟩, ⟨#[]⟩, ⟨#[]⟩⟩ : MsgV)).1) (⟨#[4, 6, 2, 4]⟩) || !beqS ((encodeM (⟨7, 1, 0, 5, [], ⟨#[]⟩, ⟨#[]⟩, ⟨#[1, 0]⟩⟩ : MsgV)).1) (⟨#[14, 2, 10, 4, 1, 0]⟩))))) || !(msameM ((decodeM (⟨#[4, 6, 2, 4]⟩)).1) (⟨2, 3, 1, 2, [], ⟨#[]⟩, ⟨#[]⟩, ⟨#[]⟩⟩ : MsgV))) || (((mCheckM (⟨2, 3, 0, 0, [], ⟨#[]⟩, ⟨#[110]⟩, ⟨#[]⟩⟩ : MsgV) != 4) || (mCheckM (⟨1, 3, 0, 0, [(⟨⟨4, ⟨#[115, 109, 111, 107, 101]⟩, ⟨#[97, 108, 97, 114, 109]⟩⟩, ⟨1, 1, ⟨#[]⟩⟩, 1⟩ : ItemV)], ⟨#[]⟩, ⟨#[]⟩, ⟨#[]⟩⟩ : MsgV) != 1)) || (mCheckM (⟨1, 4, 0, 0, [(⟨⟨4, ⟨#[115, 109, 111, 107, 101]⟩, ⟨#[97, 108, 97, 114, 109]⟩⟩, ⟨1, 1, ⟨#[]⟩⟩, 1⟩ : ItemV), (⟨⟨4, ⟨#[115, 109, 111, 107, 101]⟩, ⟨#[97, 108, 97, 114, 109]⟩⟩, ⟨1, 1, ⟨#[]⟩⟩, 1⟩ : ItemV)], ⟨#[]⟩, ⟨#[]⟩, ⟨#[]⟩⟩ : MsgV) != 14))) then false else ((urgentM (⟨rstdM , [(⟨4, 0, 0, false, 0, ⟨#[104, 97, 108, 108]⟩, [⟨#[115, 109, 111, 107, 101]⟩, ⟨#[108, 101, 118, 101, 108]⟩]⟩ : Dev)]⟩ : Home) (⟨1, 4, 0, 0, [(⟨⟨4, ⟨#[115, 109, 111, 107, 101]⟩, ⟨#[97, 108, 97, 114, 109]⟩⟩, ⟨1, 1, ⟨#[]⟩⟩, 1⟩ : ItemV)], ⟨#[]⟩, ⟨#[]⟩, ⟨#[]⟩⟩ : MsgV) && !(urgentM (⟨rstdM , [(⟨4, 0, 0, false, 0, ⟨#[104, 97, 108, 108]⟩, [⟨#[115, 109, 111, 107, 101]⟩, ⟨#[108, 101, 118, 101, 108]⟩]⟩ : Dev)]⟩ : Home) (⟨1, 4, 0, 0, [(⟨⟨4, ⟨#[108, 101, 118, 101, 108]⟩, ⟨#[108, 101, 118, 101, 108]⟩⟩, ⟨2, 1, ⟨#[]⟩⟩, 1⟩ : ItemV)], ⟨#[]⟩, ⟨#[]⟩, ⟨#[]⟩⟩ : MsgV))) && urgentM (⟨rstdM , [(⟨4, 0, 0, false, 0, ⟨#[104, 97, 108, 108]⟩, [⟨#[115, 109, 111, 107, 101]⟩, ⟨#[108, 101, 118, 101, 108]⟩]⟩ : Dev)]⟩ : Home) (⟨5, 4, 0, 0, [], ⟨#[115, 109, 111, 107, 101]⟩, ⟨#[116, 101, 115, 116]⟩, ⟨#[]⟩⟩ : MsgV)))
abbrev awakeM_c1 : Nat × AObj := (3, .box 40 [.rv (.sl 4 ((rstdM ).map Cluster.cells)), .rv (.sl 7 (([(⟨4, 0, 0, false, 0, ⟨#[104, 97, 108, 108]⟩, [⟨#[115, 109, 111, 107, 101]⟩, ⟨#[108, 101, 118, 101, 108]⟩]⟩ : Dev)]).map Dev.cells))])
abbrev awakeM_c2 : Nat × AObj := (2, .box 55 [vi 4, vs (⟨#[115, 109, 111, 107, 101]⟩), vs (⟨#[97, 108, 97, 114, 109]⟩), vi 1, vi 1, vs (⟨#[]⟩), vi 1])
abbrev awakeM_c3 : Nat × AV := (3, vs ((encodeM (⟨7, 1, 0, 5, [], ⟨#[]⟩, ⟨#[]⟩, ⟨#[1, 0]⟩⟩ : MsgV)).1))
abbrev awakeM_c4 : Nat × AV := (1, vs ((encodeM (⟨2, 3, 1, 2, [], ⟨#[]⟩, ⟨#[]⟩, ⟨#[]⟩⟩ : MsgV)).1))
abbrev awakeM_c5 : Nat × AObj := (0, .box 24 (avs (MsgV.cells ((decodeM (⟨#[4, 6, 2, 4]⟩)).1))))
abbrev awakeM_c6 : Nat × AV := (4, vi ((encodeM (⟨7, 1, 0, 5, [], ⟨#[]⟩, ⟨#[]⟩, ⟨#[1, 0]⟩⟩ : MsgV)).2))
theorem awakeM_ok  :
 ACalls Try.prog G_ 10 [] [] 0 (fun r τ => r = vb (awakeM ) ∧ τ = []) := by
 refine ACalls.body Try.func10 rfl 97 [] ?_
 refine AWp.hz [.run 1] 97 [] [] 0 ?_
 refine AWp.hz [.run 1, .nils 12 [none, none, none, none, some 7, none, none, none], .call 13 [.agg [vi 2, vi 3, vi 1, vi 2, .rv (.sl 7 (([]).map ItemV.cells)), vs (⟨#[]⟩), vs (⟨#[]⟩), vs (⟨#[]⟩)]] (.tuple [vs ((encodeM (⟨2, 3, 1, 2, [], ⟨#[]⟩, ⟨#[]⟩, ⟨#[]⟩⟩ : MsgV)).1), vi ((encodeM (⟨2, 3, 1, 2, [], ⟨#[]⟩, ⟨#[]⟩, ⟨#[]⟩⟩ : MsgV)).2)]) [] 0 (encodeM_ok (⟨2, 3, 1, 2, [], ⟨#[]⟩, ⟨#[]⟩, ⟨#[]⟩⟩ : MsgV) (by first | assumption | decide | (intro x hx; first | (cases hx; done) | (simp only [List.mem_cons, List.not_mem_nil, or_false] at hx; first | (subst hx; exact ⟨by decide, by decide, by decide⟩) | (rcases hx with rfl | rfl <;> exact ⟨by decide, by decide, by decide⟩))) | omega) (by first | assumption | decide | (intro x hx; first | (cases hx; done) | (simp only [List.mem_cons, List.not_mem_nil, or_false] at hx; first | (subst hx; exact ⟨by decide, by decide, by decide⟩) | (rcases hx with rfl | rfl <;> exact ⟨by decide, by decide, by decide⟩))) | omega) (by first | assumption | decide | (intro x hx; first | (cases hx; done) | (simp only [List.mem_cons, List.not_mem_nil, or_false] at hx; first | (subst hx; exact ⟨by decide, by decide, by decide⟩) | (rcases hx with rfl | rfl <;> exact ⟨by decide, by decide, by decide⟩))) | omega) (by first | assumption | decide | (intro x hx; first | (cases hx; done) | (simp only [List.mem_cons, List.not_mem_nil, or_false] at hx; first | (subst hx; exact ⟨by decide, by decide, by decide⟩) | (rcases hx with rfl | rfl <;> exact ⟨by decide, by decide, by decide⟩))) | omega) (by first | assumption | decide | (intro x hx; first | (cases hx; done) | (simp only [List.mem_cons, List.not_mem_nil, or_false] at hx; first | (subst hx; exact ⟨by decide, by decide, by decide⟩) | (rcases hx with rfl | rfl <;> exact ⟨by decide, by decide, by decide⟩))) | omega)), .run 5] 97 [awakeM_c4, (2, vi ((encodeM (⟨2, 3, 1, 2, [], ⟨#[]⟩, ⟨#[]⟩, ⟨#[]⟩⟩ : MsgV)).2))] [] 0 ?_
 refine AWp.hz [.run 1, .nils 17 [none, none, none, none, some 7, none, none, none], .call 13 [.agg [vi 7, vi 1, vi 0, vi 5, .rv (.sl 7 (([]).map ItemV.cells)), vs (⟨#[]⟩), vs (⟨#[]⟩), vs (⟨#[1, 0]⟩)]] (.tuple [vs ((encodeM (⟨7, 1, 0, 5, [], ⟨#[]⟩, ⟨#[]⟩, ⟨#[1, 0]⟩⟩ : MsgV)).1), vi ((encodeM (⟨7, 1, 0, 5, [], ⟨#[]⟩, ⟨#[]⟩, ⟨#[1, 0]⟩⟩ : MsgV)).2)]) [] 0 (encodeM_ok (⟨7, 1, 0, 5, [], ⟨#[]⟩, ⟨#[]⟩, ⟨#[1, 0]⟩⟩ : MsgV) (by first | assumption | decide | (intro x hx; first | (cases hx; done) | (simp only [List.mem_cons, List.not_mem_nil, or_false] at hx; first | (subst hx; exact ⟨by decide, by decide, by decide⟩) | (rcases hx with rfl | rfl <;> exact ⟨by decide, by decide, by decide⟩))) | omega) (by first | assumption | decide | (intro x hx; first | (cases hx; done) | (simp only [List.mem_cons, List.not_mem_nil, or_false] at hx; first | (subst hx; exact ⟨by decide, by decide, by decide⟩) | (rcases hx with rfl | rfl <;> exact ⟨by decide, by decide, by decide⟩))) | omega) (by first | assumption | decide | (intro x hx; first | (cases hx; done) | (simp only [List.mem_cons, List.not_mem_nil, or_false] at hx; first | (subst hx; exact ⟨by decide, by decide, by decide⟩) | (rcases hx with rfl | rfl <;> exact ⟨by decide, by decide, by decide⟩))) | omega) (by first | assumption | decide | (intro x hx; first | (cases hx; done) | (simp only [List.mem_cons, List.not_mem_nil, or_false] at hx; first | (subst hx; exact ⟨by decide, by decide, by decide⟩) | (rcases hx with rfl | rfl <;> exact ⟨by decide, by decide, by decide⟩))) | omega) (by first | assumption | decide | (intro x hx; first | (cases hx; done) | (simp only [List.mem_cons, List.not_mem_nil, or_false] at hx; first | (subst hx; exact ⟨by decide, by decide, by decide⟩) | (rcases hx with rfl | rfl <;> exact ⟨by decide, by decide, by decide⟩))) | omega)), .run 5] 97 [awakeM_c4, (2, vi ((encodeM (⟨2, 3, 1, 2, [], ⟨#[]⟩, ⟨#[]⟩, ⟨#[]⟩⟩ : MsgV)).2)), awakeM_c3, awakeM_c6] [] 0 ?_
 refine AWp.hz [.call 15 [vs (⟨#[4, 6, 2, 4]⟩)] (.tuple [.agg (avs (MsgV.cells ((decodeM (⟨#[4, 6, 2, 4]⟩)).1))), vi ((decodeM (⟨#[4, 6, 2, 4]⟩)).2)]) [] 0 (decodeM_ok (⟨#[4, 6, 2, 4]⟩) (by first | assumption | decide | (intro x hx; first | (cases hx; done) | (simp only [List.mem_cons, List.not_mem_nil, or_false] at hx; first | (subst hx; exact ⟨by decide, by decide, by decide⟩) | (rcases hx with rfl | rfl <;> exact ⟨by decide, by decide, by decide⟩))) | omega)), .run 6] 97 [awakeM_c4, (2, vi ((encodeM (⟨2, 3, 1, 2, [], ⟨#[]⟩, ⟨#[]⟩, ⟨#[]⟩⟩ : MsgV)).2)), awakeM_c3, awakeM_c6, (5, .ptr 0 0), (6, vi ((decodeM (⟨#[4, 6, 2, 4]⟩)).2))] [awakeM_c5] 1 ?_
 refine AWp.seq ?_
 refine AWp.join (Z 97 [(48, vb (((((encodeM (⟨2, 3, 1, 2, [], ⟨#[]⟩, ⟨#[]⟩, ⟨#[]⟩⟩ : MsgV)).2) != 0) || ((((encodeM (⟨7, 1, 0, 5, [], ⟨#[]⟩, ⟨#[]⟩, ⟨#[1, 0]⟩⟩ : MsgV)).2) != 0) || ((((decodeM (⟨#[4, 6, 2, 4]⟩)).2) != 0) || (!beqS ((encodeM (⟨2, 3, 1, 2, [], ⟨#[]⟩, ⟨#[]⟩, ⟨#[]⟩⟩ : MsgV)).1) (⟨#[4, 6, 2, 4]⟩) || !beqS ((encodeM (⟨7, 1, 0, 5, [], ⟨#[]⟩, ⟨#[]⟩, ⟨#[1, 0]⟩⟩ : MsgV)).1) (⟨#[14, 2, 10, 4, 1, 0]⟩))))) || !(msameM ((decodeM (⟨#[4, 6, 2, 4]⟩)).1) (⟨2, 3, 1, 2, [], ⟨#[]⟩, ⟨#[]⟩, ⟨#[]⟩⟩ : MsgV))))] [] 1) ?_ ?_
 ·
  refine AWp.region ?_
  refine AOps.hg [.run 3] ((((encodeM (⟨2, 3, 1, 2, [], ⟨#[]⟩, ⟨#[]⟩, ⟨#[]⟩⟩ : MsgV)).2) != 0)) 97 (fun b_ => [awakeM_c4, awakeM_c3, awakeM_c6, (5, .ptr 0 0), (6, vi ((decodeM (⟨#[4, 6, 2, 4]⟩)).2)), (27, vb b_)]) [awakeM_c5] 1 (fun hg1 => ?_) (fun hg1 => ?_)
  ·
   refine AOps.he [.run 21] 97 [(48, vb true)] [] 1 ?_
   exact leZ (by rw [hg1]; try kernel_rfl)
  ·
   refine AOps.hg [.run 4] ((((encodeM (⟨7, 1, 0, 5, [], ⟨#[]⟩, ⟨#[]⟩, ⟨#[1, 0]⟩⟩ : MsgV)).2) != 0)) 97 (fun b_ => [awakeM_c4, awakeM_c3, (5, .ptr 0 0), (6, vi ((decodeM (⟨#[4, 6, 2, 4]⟩)).2)), (31, vb b_)]) [awakeM_c5] 1 (fun hg2 => ?_) (fun hg2 => ?_)
   ·
    refine AOps.he [.run 17] 97 [(48, vb true)] [] 1 ?_
    exact leZ (by rw [hg1, hg2]; try kernel_rfl)
   ·
    refine AOps.hg [.run 4] ((((decodeM (⟨#[4, 6, 2, 4]⟩)).2) != 0)) 97 (fun b_ => [awakeM_c4, awakeM_c3, (5, .ptr 0 0), (35, vb b_)]) [awakeM_c5] 1 (fun hg3 => ?_) (fun hg3 => ?_)
    ·
     refine AOps.he [.run 13] 97 [(48, vb true)] [] 1 ?_
     exact leZ (by rw [hg1, hg2, hg3]; try kernel_rfl)
    ·
     refine AOps.hg [.run 4] (!beqS ((encodeM (⟨2, 3, 1, 2, [], ⟨#[]⟩, ⟨#[]⟩, ⟨#[]⟩⟩ : MsgV)).1) (⟨#[4, 6, 2, 4]⟩)) 97 (fun b_ => [awakeM_c3, (5, .ptr 0 0), (39, vb b_)]) [awakeM_c5] 1 (fun hg4 => ?_) (fun hg4 => ?_)
     ·
      refine AOps.he [.run 9] 97 [(48, vb true)] [] 1 ?_
      exact leZ (by rw [hg1, hg2, hg3, hg4]; try kernel_rfl)
     ·
      refine AOps.hg [.run 4] (!beqS ((encodeM (⟨7, 1, 0, 5, [], ⟨#[]⟩, ⟨#[]⟩, ⟨#[1, 0]⟩⟩ : MsgV)).1) (⟨#[14, 2, 10, 4, 1, 0]⟩)) 97 (fun b_ => [(5, .ptr 0 0), (43, vb b_)]) [awakeM_c5] 1 (fun hg5 => ?_) (fun hg5 => ?_)
      ·
       refine AOps.he [.run 5] 97 [(48, vb true)] [] 1 ?_
       exact leZ (by rw [hg1, hg2, hg3, hg4, hg5]; try kernel_rfl)
      ·
       refine AOps.he [.run 2, .nils 45 [none, none, none, none, some 7, none, none, none], .call 17 [.agg (avs (MsgV.cells ((decodeM (⟨#[4, 6, 2, 4]⟩)).1))), .agg [vi 2, vi 3, vi 1, vi 2, .rv (.sl 7 (([]).map ItemV.cells)), vs (⟨#[]⟩), vs (⟨#[]⟩), vs (⟨#[]⟩)]] (vb (msameM ((decodeM (⟨#[4, 6, 2, 4]⟩)).1) (⟨2, 3, 1, 2, [], ⟨#[]⟩, ⟨#[]⟩, ⟨#[]⟩⟩ : MsgV))) [] 0 (msameM_ok ((decodeM (⟨#[4, 6, 2, 4]⟩)).1) (⟨2, 3, 1, 2, [], ⟨#[]⟩, ⟨#[]⟩, ⟨#[]⟩⟩ : MsgV)), .run 2] 97 [(48, vb (!(msameM ((decodeM (⟨#[4, 6, 2, 4]⟩)).1) (⟨2, 3, 1, 2, [], ⟨#[]⟩, ⟨#[]⟩, ⟨#[]⟩⟩ : MsgV))))] [] 1 ?_
       exact leZ (by rw [hg1, hg2, hg3, hg4, hg5]; try kernel_rfl)
 ·
  refine AWp.cnd ((((((encodeM (⟨2, 3, 1, 2, [], ⟨#[]⟩, ⟨#[]⟩, ⟨#[]⟩⟩ : MsgV)).2) != 0) || ((((encodeM (⟨7, 1, 0, 5, [], ⟨#[]⟩, ⟨#[]⟩, ⟨#[1, 0]⟩⟩ : MsgV)).2) != 0) || ((((decodeM (⟨#[4, 6, 2, 4]⟩)).2) != 0) || (!beqS ((encodeM (⟨2, 3, 1, 2, [], ⟨#[]⟩, ⟨#[]⟩, ⟨#[]⟩⟩ : MsgV)).1) (⟨#[4, 6, 2, 4]⟩) || !beqS ((encodeM (⟨7, 1, 0, 5, [], ⟨#[]⟩, ⟨#[]⟩, ⟨#[1, 0]⟩⟩ : MsgV)).1) (⟨#[14, 2, 10, 4, 1, 0]⟩))))) || !(msameM ((decodeM (⟨#[4, 6, 2, 4]⟩)).1) (⟨2, 3, 1, 2, [], ⟨#[]⟩, ⟨#[]⟩, ⟨#[]⟩⟩ : MsgV)))) (fun h6 => ?_) (fun h6 => ?_)
  ·
   refine AWp.hz [.run 1] 97 [(0, vb false)] [] 1 ?_
   refine AWp.ret ?_
   exact leafR (r := vb false) (by unfold awakeM; (try rw [h6]); try kernel_rfl)
  ·
   have h6l := or_fl h6
   have h6ll := or_fl h6l
   have h6lr := or_fr h6l
   have h6lrl := or_fl h6lr
   have h6lrr := or_fr h6lr
   have h6lrrl := or_fl h6lrr
   have h6lrrr := or_fr h6lrr
   have h6r := or_fr h6
   refine AWp.skip ?_
   refine AWp.hz [.run 3] 97 [(7, .ptr 1 0)] [(1, .box 51 [vi 4, vs (⟨#[115, 109, 111, 107, 101]⟩), vs (⟨#[97, 108, 97, 114, 109]⟩)])] 2 ?_
   refine AWp.hz [.run 5] 97 [(8, .ptr 2 0)] [awakeM_c2] 3 ?_
   refine AWp.hz [.call 20 [] (.rv (.sl 4 ((rstdM ).map Cluster.cells))) [] 0 (rstdM_ok ), .lit 9 1 (List.map strC [⟨#[115, 109, 111, 107, 101]⟩, ⟨#[108, 101, 118, 101, 108]⟩]), .run 1, .lit 60 7 (List.map Dev.cells [(⟨4, 0, 0, false, 0, ⟨#[104, 97, 108, 108]⟩, [⟨#[115, 109, 111, 107, 101]⟩, ⟨#[108, 101, 118, 101, 108]⟩]⟩ : Dev)]), .run 3] 97 [(8, .ptr 2 0), (9, .ptr 3 0)] [awakeM_c1, awakeM_c2] 4 ?_
   refine AWp.seq ?_
   refine AWp.join (Z 97 [(8, .ptr 2 0), (9, .ptr 3 0), (75, vb (((mCheckM (⟨2, 3, 0, 0, [], ⟨#[]⟩, ⟨#[110]⟩, ⟨#[]⟩⟩ : MsgV) != 4) || (mCheckM (⟨1, 3, 0, 0, [(⟨⟨4, ⟨#[115, 109, 111, 107, 101]⟩, ⟨#[97, 108, 97, 114, 109]⟩⟩, ⟨1, 1, ⟨#[]⟩⟩, 1⟩ : ItemV)], ⟨#[]⟩, ⟨#[]⟩, ⟨#[]⟩⟩ : MsgV) != 1)) || (mCheckM (⟨1, 4, 0, 0, [(⟨⟨4, ⟨#[115, 109, 111, 107, 101]⟩, ⟨#[97, 108, 97, 114, 109]⟩⟩, ⟨1, 1, ⟨#[]⟩⟩, 1⟩ : ItemV), (⟨⟨4, ⟨#[115, 109, 111, 107, 101]⟩, ⟨#[97, 108, 97, 114, 109]⟩⟩, ⟨1, 1, ⟨#[]⟩⟩, 1⟩ : ItemV)], ⟨#[]⟩, ⟨#[]⟩, ⟨#[]⟩⟩ : MsgV) != 14)))] [(3, .box 40 [.rv (.sl 4 ((rstdM ).map Cluster.cells)), .rv (.sl 7 (([(⟨4, 0, 0, false, 0, ⟨#[104, 97, 108, 108]⟩, [⟨#[115, 109, 111, 107, 101]⟩, ⟨#[108, 101, 118, 101, 108]⟩]⟩ : Dev)]).map Dev.cells))]), (2, .box 55 [vi 4, vs (⟨#[115, 109, 111, 107, 101]⟩), vs (⟨#[97, 108, 97, 114, 109]⟩), vi 1, vi 1, vs (⟨#[]⟩), vi 1])] 4) ?_ ?_
   ·
    refine AWp.region ?_
    refine AOps.hg [.run 1, .nils 58 [none, none, none, none, some 7, none, none, none], .call 11 [.agg [vi 2, vi 3, vi 0, vi 0, .rv (.sl 7 (([]).map ItemV.cells)), vs (⟨#[]⟩), vs (⟨#[110]⟩), vs (⟨#[]⟩)]] (vi (mCheckM (⟨2, 3, 0, 0, [], ⟨#[]⟩, ⟨#[110]⟩, ⟨#[]⟩⟩ : MsgV))) [] 0 (mCheckM_ok (⟨2, 3, 0, 0, [], ⟨#[]⟩, ⟨#[110]⟩, ⟨#[]⟩⟩ : MsgV) (by first | assumption | decide | (intro x hx; first | (cases hx; done) | (simp only [List.mem_cons, List.not_mem_nil, or_false] at hx; first | (subst hx; exact ⟨by decide, by decide, by decide⟩) | (rcases hx with rfl | rfl <;> exact ⟨by decide, by decide, by decide⟩))) | omega)), .run 2] ((mCheckM (⟨2, 3, 0, 0, [], ⟨#[]⟩, ⟨#[110]⟩, ⟨#[]⟩⟩ : MsgV) != 4)) 97 (fun b_ => [(8, .ptr 2 0), (9, .ptr 3 0), (61, vb b_)]) [awakeM_c1, awakeM_c2] 4 (fun hg7 => ?_) (fun hg7 => ?_)
    ·
     refine AOps.he [.run 14] 97 [(8, .ptr 2 0), (9, .ptr 3 0), (75, vb true)] [awakeM_c1, awakeM_c2] 4 ?_
     exact leZ (by rw [hg7]; try kernel_rfl)
    ·
     refine AOps.hg [.run 1, .lit 55 7 (List.map ItemV.cells [(⟨⟨4, ⟨#[115, 109, 111, 107, 101]⟩, ⟨#[97, 108, 97, 114, 109]⟩⟩, ⟨1, 1, ⟨#[]⟩⟩, 1⟩ : ItemV)]), .run 1, .call 11 [.agg [vi 1, vi 3, vi 0, vi 0, .rv (.sl 7 (([(⟨⟨4, ⟨#[115, 109, 111, 107, 101]⟩, ⟨#[97, 108, 97, 114, 109]⟩⟩, ⟨1, 1, ⟨#[]⟩⟩, 1⟩ : ItemV)]).map ItemV.cells)), vs (⟨#[]⟩), vs (⟨#[]⟩), vs (⟨#[]⟩)]] (vi (mCheckM (⟨1, 3, 0, 0, [(⟨⟨4, ⟨#[115, 109, 111, 107, 101]⟩, ⟨#[97, 108, 97, 114, 109]⟩⟩, ⟨1, 1, ⟨#[]⟩⟩, 1⟩ : ItemV)], ⟨#[]⟩, ⟨#[]⟩, ⟨#[]⟩⟩ : MsgV))) [] 0 (mCheckM_ok (⟨1, 3, 0, 0, [(⟨⟨4, ⟨#[115, 109, 111, 107, 101]⟩, ⟨#[97, 108, 97, 114, 109]⟩⟩, ⟨1, 1, ⟨#[]⟩⟩, 1⟩ : ItemV)], ⟨#[]⟩, ⟨#[]⟩, ⟨#[]⟩⟩ : MsgV) (by first | assumption | decide | (intro x hx; first | (cases hx; done) | (simp only [List.mem_cons, List.not_mem_nil, or_false] at hx; first | (subst hx; exact ⟨by decide, by decide, by decide⟩) | (rcases hx with rfl | rfl <;> exact ⟨by decide, by decide, by decide⟩))) | omega)), .run 3] ((mCheckM (⟨1, 3, 0, 0, [(⟨⟨4, ⟨#[115, 109, 111, 107, 101]⟩, ⟨#[97, 108, 97, 114, 109]⟩⟩, ⟨1, 1, ⟨#[]⟩⟩, 1⟩ : ItemV)], ⟨#[]⟩, ⟨#[]⟩, ⟨#[]⟩⟩ : MsgV) != 1)) 97 (fun b_ => [(8, .ptr 2 0), (9, .ptr 3 0), (68, vb b_)]) [awakeM_c1, awakeM_c2] 4 (fun hg8 => ?_) (fun hg8 => ?_)
     ·
      refine AOps.he [.run 7] 97 [(8, .ptr 2 0), (9, .ptr 3 0), (75, vb true)] [awakeM_c1, awakeM_c2] 4 ?_
      exact leZ (by rw [hg7, hg8]; try kernel_rfl)
     ·
      refine AOps.he [.run 2, .lit 55 7 (List.map ItemV.cells [(⟨⟨4, ⟨#[115, 109, 111, 107, 101]⟩, ⟨#[97, 108, 97, 114, 109]⟩⟩, ⟨1, 1, ⟨#[]⟩⟩, 1⟩ : ItemV), (⟨⟨4, ⟨#[115, 109, 111, 107, 101]⟩, ⟨#[97, 108, 97, 114, 109]⟩⟩, ⟨1, 1, ⟨#[]⟩⟩, 1⟩ : ItemV)]), .run 1, .call 11 [.agg [vi 1, vi 4, vi 0, vi 0, .rv (.sl 7 (([(⟨⟨4, ⟨#[115, 109, 111, 107, 101]⟩, ⟨#[97, 108, 97, 114, 109]⟩⟩, ⟨1, 1, ⟨#[]⟩⟩, 1⟩ : ItemV), (⟨⟨4, ⟨#[115, 109, 111, 107, 101]⟩, ⟨#[97, 108, 97, 114, 109]⟩⟩, ⟨1, 1, ⟨#[]⟩⟩, 1⟩ : ItemV)]).map ItemV.cells)), vs (⟨#[]⟩), vs (⟨#[]⟩), vs (⟨#[]⟩)]] (vi (mCheckM (⟨1, 4, 0, 0, [(⟨⟨4, ⟨#[115, 109, 111, 107, 101]⟩, ⟨#[97, 108, 97, 114, 109]⟩⟩, ⟨1, 1, ⟨#[]⟩⟩, 1⟩ : ItemV), (⟨⟨4, ⟨#[115, 109, 111, 107, 101]⟩, ⟨#[97, 108, 97, 114, 109]⟩⟩, ⟨1, 1, ⟨#[]⟩⟩, 1⟩ : ItemV)], ⟨#[]⟩, ⟨#[]⟩, ⟨#[]⟩⟩ : MsgV))) [] 0 (mCheckM_ok (⟨1, 4, 0, 0, [(⟨⟨4, ⟨#[115, 109, 111, 107, 101]⟩, ⟨#[97, 108, 97, 114, 109]⟩⟩, ⟨1, 1, ⟨#[]⟩⟩, 1⟩ : ItemV), (⟨⟨4, ⟨#[115, 109, 111, 107, 101]⟩, ⟨#[97, 108, 97, 114, 109]⟩⟩, ⟨1, 1, ⟨#[]⟩⟩, 1⟩ : ItemV)], ⟨#[]⟩, ⟨#[]⟩, ⟨#[]⟩⟩ : MsgV) (by first | assumption | decide | (intro x hx; first | (cases hx; done) | (simp only [List.mem_cons, List.not_mem_nil, or_false] at hx; first | (subst hx; exact ⟨by decide, by decide, by decide⟩) | (rcases hx with rfl | rfl <;> exact ⟨by decide, by decide, by decide⟩))) | omega)), .run 2] 97 [(8, .ptr 2 0), (9, .ptr 3 0), (75, vb (mCheckM (⟨1, 4, 0, 0, [(⟨⟨4, ⟨#[115, 109, 111, 107, 101]⟩, ⟨#[97, 108, 97, 114, 109]⟩⟩, ⟨1, 1, ⟨#[]⟩⟩, 1⟩ : ItemV), (⟨⟨4, ⟨#[115, 109, 111, 107, 101]⟩, ⟨#[97, 108, 97, 114, 109]⟩⟩, ⟨1, 1, ⟨#[]⟩⟩, 1⟩ : ItemV)], ⟨#[]⟩, ⟨#[]⟩, ⟨#[]⟩⟩ : MsgV) != 14))] [awakeM_c1, awakeM_c2] 4 ?_
      exact leZ (by rw [hg7, hg8]; try kernel_rfl)
   ·
    refine AWp.cnd ((((mCheckM (⟨2, 3, 0, 0, [], ⟨#[]⟩, ⟨#[110]⟩, ⟨#[]⟩⟩ : MsgV) != 4) || (mCheckM (⟨1, 3, 0, 0, [(⟨⟨4, ⟨#[115, 109, 111, 107, 101]⟩, ⟨#[97, 108, 97, 114, 109]⟩⟩, ⟨1, 1, ⟨#[]⟩⟩, 1⟩ : ItemV)], ⟨#[]⟩, ⟨#[]⟩, ⟨#[]⟩⟩ : MsgV) != 1)) || (mCheckM (⟨1, 4, 0, 0, [(⟨⟨4, ⟨#[115, 109, 111, 107, 101]⟩, ⟨#[97, 108, 97, 114, 109]⟩⟩, ⟨1, 1, ⟨#[]⟩⟩, 1⟩ : ItemV), (⟨⟨4, ⟨#[115, 109, 111, 107, 101]⟩, ⟨#[97, 108, 97, 114, 109]⟩⟩, ⟨1, 1, ⟨#[]⟩⟩, 1⟩ : ItemV)], ⟨#[]⟩, ⟨#[]⟩, ⟨#[]⟩⟩ : MsgV) != 14))) (fun h9 => ?_) (fun h9 => ?_)
    ·
     refine AWp.hz [.run 1] 97 [(0, vb false)] [] 4 ?_
     refine AWp.ret ?_
     exact leafR (r := vb false) (by unfold awakeM; (try rw [h6]); (try rw [h9]); try kernel_rfl)
    ·
     have h9l := or_fl h9
     have h9ll := or_fl h9l
     have h9lr := or_fr h9l
     have h9r := or_fr h9
     refine AWp.skip ?_
     refine AWp.hz [.run 5] 97 [(8, .ptr 2 0), (9, .ptr 3 0), (10, .ptr 4 0)] [(4, .box 55 [vi 4, vs (⟨#[108, 101, 118, 101, 108]⟩), vs (⟨#[108, 101, 118, 101, 108]⟩), vi 2, vi 1, vs (⟨#[]⟩), vi 1]), awakeM_c1, awakeM_c2] 5 ?_
     refine AWp.join (Z 97 [(0, vb ((urgentM (⟨rstdM , [(⟨4, 0, 0, false, 0, ⟨#[104, 97, 108, 108]⟩, [⟨#[115, 109, 111, 107, 101]⟩, ⟨#[108, 101, 118, 101, 108]⟩]⟩ : Dev)]⟩ : Home) (⟨1, 4, 0, 0, [(⟨⟨4, ⟨#[115, 109, 111, 107, 101]⟩, ⟨#[97, 108, 97, 114, 109]⟩⟩, ⟨1, 1, ⟨#[]⟩⟩, 1⟩ : ItemV)], ⟨#[]⟩, ⟨#[]⟩, ⟨#[]⟩⟩ : MsgV) && !(urgentM (⟨rstdM , [(⟨4, 0, 0, false, 0, ⟨#[104, 97, 108, 108]⟩, [⟨#[115, 109, 111, 107, 101]⟩, ⟨#[108, 101, 118, 101, 108]⟩]⟩ : Dev)]⟩ : Home) (⟨1, 4, 0, 0, [(⟨⟨4, ⟨#[108, 101, 118, 101, 108]⟩, ⟨#[108, 101, 118, 101, 108]⟩⟩, ⟨2, 1, ⟨#[]⟩⟩, 1⟩ : ItemV)], ⟨#[]⟩, ⟨#[]⟩, ⟨#[]⟩⟩ : MsgV))) && urgentM (⟨rstdM , [(⟨4, 0, 0, false, 0, ⟨#[104, 97, 108, 108]⟩, [⟨#[115, 109, 111, 107, 101]⟩, ⟨#[108, 101, 118, 101, 108]⟩]⟩ : Dev)]⟩ : Home) (⟨5, 4, 0, 0, [], ⟨#[115, 109, 111, 107, 101]⟩, ⟨#[116, 101, 115, 116]⟩, ⟨#[]⟩⟩ : MsgV)))] [] 5) ?_ ?_
     ·
      refine AWp.region ?_
      refine AOps.hg [.run 2, .lit 55 7 (List.map ItemV.cells [(⟨⟨4, ⟨#[115, 109, 111, 107, 101]⟩, ⟨#[97, 108, 97, 114, 109]⟩⟩, ⟨1, 1, ⟨#[]⟩⟩, 1⟩ : ItemV)]), .run 1, .call 19 [.agg [.rv (.sl 4 ((rstdM ).map Cluster.cells)), .rv (.sl 7 (([(⟨4, 0, 0, false, 0, ⟨#[104, 97, 108, 108]⟩, [⟨#[115, 109, 111, 107, 101]⟩, ⟨#[108, 101, 118, 101, 108]⟩]⟩ : Dev)]).map Dev.cells))], .agg [vi 1, vi 4, vi 0, vi 0, .rv (.sl 7 (([(⟨⟨4, ⟨#[115, 109, 111, 107, 101]⟩, ⟨#[97, 108, 97, 114, 109]⟩⟩, ⟨1, 1, ⟨#[]⟩⟩, 1⟩ : ItemV)]).map ItemV.cells)), vs (⟨#[]⟩), vs (⟨#[]⟩), vs (⟨#[]⟩)]] (vb (urgentM (⟨rstdM , [(⟨4, 0, 0, false, 0, ⟨#[104, 97, 108, 108]⟩, [⟨#[115, 109, 111, 107, 101]⟩, ⟨#[108, 101, 118, 101, 108]⟩]⟩ : Dev)]⟩ : Home) (⟨1, 4, 0, 0, [(⟨⟨4, ⟨#[115, 109, 111, 107, 101]⟩, ⟨#[97, 108, 97, 114, 109]⟩⟩, ⟨1, 1, ⟨#[]⟩⟩, 1⟩ : ItemV)], ⟨#[]⟩, ⟨#[]⟩, ⟨#[]⟩⟩ : MsgV))) [] 0 (urgentM_ok (⟨rstdM , [(⟨4, 0, 0, false, 0, ⟨#[104, 97, 108, 108]⟩, [⟨#[115, 109, 111, 107, 101]⟩, ⟨#[108, 101, 118, 101, 108]⟩]⟩ : Dev)]⟩ : Home) (⟨1, 4, 0, 0, [(⟨⟨4, ⟨#[115, 109, 111, 107, 101]⟩, ⟨#[97, 108, 97, 114, 109]⟩⟩, ⟨1, 1, ⟨#[]⟩⟩, 1⟩ : ItemV)], ⟨#[]⟩, ⟨#[]⟩, ⟨#[]⟩⟩ : MsgV) (by first | assumption | decide | (intro x hx; first | (cases hx; done) | (simp only [List.mem_cons, List.not_mem_nil, or_false] at hx; first | (subst hx; exact ⟨by decide, by decide, by decide⟩) | (rcases hx with rfl | rfl <;> exact ⟨by decide, by decide, by decide⟩))) | omega)), .run 1] (urgentM (⟨rstdM , [(⟨4, 0, 0, false, 0, ⟨#[104, 97, 108, 108]⟩, [⟨#[115, 109, 111, 107, 101]⟩, ⟨#[108, 101, 118, 101, 108]⟩]⟩ : Dev)]⟩ : Home) (⟨1, 4, 0, 0, [(⟨⟨4, ⟨#[115, 109, 111, 107, 101]⟩, ⟨#[97, 108, 97, 114, 109]⟩⟩, ⟨1, 1, ⟨#[]⟩⟩, 1⟩ : ItemV)], ⟨#[]⟩, ⟨#[]⟩, ⟨#[]⟩⟩ : MsgV)) 97 (fun b_ => [(9, .ptr 3 0), (10, .ptr 4 0), (84, vb b_)]) [(4, .box 55 [vi 4, vs (⟨#[108, 101, 118, 101, 108]⟩), vs (⟨#[108, 101, 118, 101, 108]⟩), vi 2, vi 1, vs (⟨#[]⟩), vi 1]), awakeM_c1] 5 (fun hg10 => ?_) (fun hg10 => ?_)
      ·
       refine AOps.hg [.run 2, .lit 55 7 (List.map ItemV.cells [(⟨⟨4, ⟨#[108, 101, 118, 101, 108]⟩, ⟨#[108, 101, 118, 101, 108]⟩⟩, ⟨2, 1, ⟨#[]⟩⟩, 1⟩ : ItemV)]), .run 1, .call 19 [.agg [.rv (.sl 4 ((rstdM ).map Cluster.cells)), .rv (.sl 7 (([(⟨4, 0, 0, false, 0, ⟨#[104, 97, 108, 108]⟩, [⟨#[115, 109, 111, 107, 101]⟩, ⟨#[108, 101, 118, 101, 108]⟩]⟩ : Dev)]).map Dev.cells))], .agg [vi 1, vi 4, vi 0, vi 0, .rv (.sl 7 (([(⟨⟨4, ⟨#[108, 101, 118, 101, 108]⟩, ⟨#[108, 101, 118, 101, 108]⟩⟩, ⟨2, 1, ⟨#[]⟩⟩, 1⟩ : ItemV)]).map ItemV.cells)), vs (⟨#[]⟩), vs (⟨#[]⟩), vs (⟨#[]⟩)]] (vb (urgentM (⟨rstdM , [(⟨4, 0, 0, false, 0, ⟨#[104, 97, 108, 108]⟩, [⟨#[115, 109, 111, 107, 101]⟩, ⟨#[108, 101, 118, 101, 108]⟩]⟩ : Dev)]⟩ : Home) (⟨1, 4, 0, 0, [(⟨⟨4, ⟨#[108, 101, 118, 101, 108]⟩, ⟨#[108, 101, 118, 101, 108]⟩⟩, ⟨2, 1, ⟨#[]⟩⟩, 1⟩ : ItemV)], ⟨#[]⟩, ⟨#[]⟩, ⟨#[]⟩⟩ : MsgV))) [] 0 (urgentM_ok (⟨rstdM , [(⟨4, 0, 0, false, 0, ⟨#[104, 97, 108, 108]⟩, [⟨#[115, 109, 111, 107, 101]⟩, ⟨#[108, 101, 118, 101, 108]⟩]⟩ : Dev)]⟩ : Home) (⟨1, 4, 0, 0, [(⟨⟨4, ⟨#[108, 101, 118, 101, 108]⟩, ⟨#[108, 101, 118, 101, 108]⟩⟩, ⟨2, 1, ⟨#[]⟩⟩, 1⟩ : ItemV)], ⟨#[]⟩, ⟨#[]⟩, ⟨#[]⟩⟩ : MsgV) (by first | assumption | decide | (intro x hx; first | (cases hx; done) | (simp only [List.mem_cons, List.not_mem_nil, or_false] at hx; first | (subst hx; exact ⟨by decide, by decide, by decide⟩) | (rcases hx with rfl | rfl <;> exact ⟨by decide, by decide, by decide⟩))) | omega)), .run 3] (!(urgentM (⟨rstdM , [(⟨4, 0, 0, false, 0, ⟨#[104, 97, 108, 108]⟩, [⟨#[115, 109, 111, 107, 101]⟩, ⟨#[108, 101, 118, 101, 108]⟩]⟩ : Dev)]⟩ : Home) (⟨1, 4, 0, 0, [(⟨⟨4, ⟨#[108, 101, 118, 101, 108]⟩, ⟨#[108, 101, 118, 101, 108]⟩⟩, ⟨2, 1, ⟨#[]⟩⟩, 1⟩ : ItemV)], ⟨#[]⟩, ⟨#[]⟩, ⟨#[]⟩⟩ : MsgV))) 97 (fun b_ => [(9, .ptr 3 0), (92, vb b_)]) [awakeM_c1] 5 (fun hg11 => ?_) (fun hg11 => ?_)
       ·
        refine AOps.he [.run 2, .nils 94 [none, none, none, none, some 7, none, none, none], .call 19 [.agg [.rv (.sl 4 ((rstdM ).map Cluster.cells)), .rv (.sl 7 (([(⟨4, 0, 0, false, 0, ⟨#[104, 97, 108, 108]⟩, [⟨#[115, 109, 111, 107, 101]⟩, ⟨#[108, 101, 118, 101, 108]⟩]⟩ : Dev)]).map Dev.cells))], .agg [vi 5, vi 4, vi 0, vi 0, .rv (.sl 7 (([]).map ItemV.cells)), vs (⟨#[115, 109, 111, 107, 101]⟩), vs (⟨#[116, 101, 115, 116]⟩), vs (⟨#[]⟩)]] (vb (urgentM (⟨rstdM , [(⟨4, 0, 0, false, 0, ⟨#[104, 97, 108, 108]⟩, [⟨#[115, 109, 111, 107, 101]⟩, ⟨#[108, 101, 118, 101, 108]⟩]⟩ : Dev)]⟩ : Home) (⟨5, 4, 0, 0, [], ⟨#[115, 109, 111, 107, 101]⟩, ⟨#[116, 101, 115, 116]⟩, ⟨#[]⟩⟩ : MsgV))) [] 0 (urgentM_ok (⟨rstdM , [(⟨4, 0, 0, false, 0, ⟨#[104, 97, 108, 108]⟩, [⟨#[115, 109, 111, 107, 101]⟩, ⟨#[108, 101, 118, 101, 108]⟩]⟩ : Dev)]⟩ : Home) (⟨5, 4, 0, 0, [], ⟨#[115, 109, 111, 107, 101]⟩, ⟨#[116, 101, 115, 116]⟩, ⟨#[]⟩⟩ : MsgV) (by first | assumption | decide | (intro x hx; first | (cases hx; done) | (simp only [List.mem_cons, List.not_mem_nil, or_false] at hx; first | (subst hx; exact ⟨by decide, by decide, by decide⟩) | (rcases hx with rfl | rfl <;> exact ⟨by decide, by decide, by decide⟩))) | omega)), .run 2] 97 [(0, vb (urgentM (⟨rstdM , [(⟨4, 0, 0, false, 0, ⟨#[104, 97, 108, 108]⟩, [⟨#[115, 109, 111, 107, 101]⟩, ⟨#[108, 101, 118, 101, 108]⟩]⟩ : Dev)]⟩ : Home) (⟨5, 4, 0, 0, [], ⟨#[115, 109, 111, 107, 101]⟩, ⟨#[116, 101, 115, 116]⟩, ⟨#[]⟩⟩ : MsgV)))] [] 5 ?_
        exact leZ (by rw [hg10, hg11]; try kernel_rfl)
       ·
        refine AOps.he [.run 5] 97 [(0, vb false)] [] 5 ?_
        exact leZ (by rw [hg10, hg11]; try kernel_rfl)
      ·
       refine AOps.he [.run 13] 97 [(0, vb false)] [] 5 ?_
       exact leZ (by rw [hg10]; try kernel_rfl)
     ·
      refine AWp.ret ?_
      exact leafR (r := vb ((urgentM (⟨rstdM , [(⟨4, 0, 0, false, 0, ⟨#[104, 97, 108, 108]⟩, [⟨#[115, 109, 111, 107, 101]⟩, ⟨#[108, 101, 118, 101, 108]⟩]⟩ : Dev)]⟩ : Home) (⟨1, 4, 0, 0, [(⟨⟨4, ⟨#[115, 109, 111, 107, 101]⟩, ⟨#[97, 108, 97, 114, 109]⟩⟩, ⟨1, 1, ⟨#[]⟩⟩, 1⟩ : ItemV)], ⟨#[]⟩, ⟨#[]⟩, ⟨#[]⟩⟩ : MsgV) && !(urgentM (⟨rstdM , [(⟨4, 0, 0, false, 0, ⟨#[104, 97, 108, 108]⟩, [⟨#[115, 109, 111, 107, 101]⟩, ⟨#[108, 101, 118, 101, 108]⟩]⟩ : Dev)]⟩ : Home) (⟨1, 4, 0, 0, [(⟨⟨4, ⟨#[108, 101, 118, 101, 108]⟩, ⟨#[108, 101, 118, 101, 108]⟩⟩, ⟨2, 1, ⟨#[]⟩⟩, 1⟩ : ItemV)], ⟨#[]⟩, ⟨#[]⟩, ⟨#[]⟩⟩ : MsgV))) && urgentM (⟨rstdM , [(⟨4, 0, 0, false, 0, ⟨#[104, 97, 108, 108]⟩, [⟨#[115, 109, 111, 107, 101]⟩, ⟨#[108, 101, 118, 101, 108]⟩]⟩ : Dev)]⟩ : Home) (⟨5, 4, 0, 0, [], ⟨#[115, 109, 111, 107, 101]⟩, ⟨#[116, 101, 115, 116]⟩, ⟨#[]⟩⟩ : MsgV))) (by unfold awakeM; (try rw [h6]); (try rw [h9]); try kernel_rfl)
def lChecksM (m : MsgV) : Bool :=
 (bif !(smallM m) then awakeM  else ((mCheckM m == rmCheckM m) && awakeM ))
theorem lChecksM_ok (m : MsgV) :
 ACalls Try.prog G_ 3 [.agg (avs (MsgV.cells m))] [] 0 (fun r τ => r = vb (lChecksM m) ∧ τ = []) := by
 refine ACalls.body Try.func3 rfl 15 [(0, .agg (avs (MsgV.cells m)))] ?_
 refine AWp.hz [.run 2] 15 [(1, .ptr 0 0)] [(0, .box 24 (avs (MsgV.cells m)))] 1 ?_
 refine AWp.seq ?_
 refine AWp.hz [.run 1, .call 9 [.agg (avs (MsgV.cells m))] (vb (smallM m)) [] 0 (smallM_ok m), .run 1] 15 [(1, .ptr 0 0), (5, vb (!(smallM m)))] [(0, .box 24 (avs (MsgV.cells m)))] 1 ?_
 refine AWp.cnd (!(smallM m)) (fun h1 => ?_) (fun h1 => ?_)
 ·
  refine AWp.hz [.call 10 [] (vb (awakeM )) [] 0 (awakeM_ok ), .run 1] 15 [(2, vb (awakeM ))] [] 1 ?_
  refine AWp.ret ?_
  exact leafR (r := vb (awakeM )) (by unfold lChecksM; (try rw [h1]); try kernel_rfl)
 ·
  refine AWp.skip ?_
  refine AWp.split ((mCheckM m == rmCheckM m)) (fun h2 => ?_) (fun h2 => ?_)
  ·
   refine AWp.dz [.agg (avs (MsgV.cells m)), vi (mCheckM m), .agg (avs (MsgV.cells m)), vi (rmCheckM m), vb true, vb true, vb (awakeM ), vb (awakeM ), vb (awakeM )] 15 [(2, vb (awakeM ))] [] 1 ?_ ?_
   ·
    refine DSteps.cons (DStep.va) ?_
    refine DSteps.cons (DStep.call rfl (by kernel_rfl) (by kernel_rfl) (by kernel_rfl) (args := [.agg (avs (MsgV.cells m))]) (by kernel_rfl) (by kernel_rfl) (mCheckM_ok m (by first | with_reducible assumption | with_reducible exact small_d (by with_reducible assumption) | with_reducible exact small_i (by with_reducible assumption) | with_reducible exact small_l (by with_reducible assumption) | with_reducible exact small_c (by with_reducible assumption) | with_reducible exact small_n (by with_reducible assumption) | with_reducible exact dec_d (by with_reducible assumption) | with_reducible exact dec_i (by with_reducible assumption) | with_reducible exact dec_l (by with_reducible assumption) | with_reducible exact dec_c (by with_reducible assumption) | with_reducible exact dec_n (by with_reducible assumption) | with_reducible exact app_size (by with_reducible assumption) (Nat.le_refl _) | with_reducible exact cut_size (by with_reducible assumption) | omega)) (by kernel_rfl) (Nat.le_of_ble_eq_true (by kernel_rfl))) ?_
    refine DSteps.cons (DStep.va) ?_
    refine DSteps.cons (DStep.call rfl (by kernel_rfl) (by kernel_rfl) (by kernel_rfl) (args := [.agg (avs (MsgV.cells m))]) (by kernel_rfl) (by kernel_rfl) (rmCheckM_ok m (by first | with_reducible assumption | with_reducible exact small_d (by with_reducible assumption) | with_reducible exact small_i (by with_reducible assumption) | with_reducible exact small_l (by with_reducible assumption) | with_reducible exact small_c (by with_reducible assumption) | with_reducible exact small_n (by with_reducible assumption) | with_reducible exact dec_d (by with_reducible assumption) | with_reducible exact dec_i (by with_reducible assumption) | with_reducible exact dec_l (by with_reducible assumption) | with_reducible exact dec_c (by with_reducible assumption) | with_reducible exact dec_n (by with_reducible assumption) | with_reducible exact app_size (by with_reducible assumption) (Nat.le_refl _) | with_reducible exact cut_size (by with_reducible assumption) | omega)) (by kernel_rfl) (Nat.le_of_ble_eq_true (by kernel_rfl))) ?_
    refine DSteps.cons ((DStep.val (v := vb (mCheckM m == rmCheckM m)) (by kernel_rfl) (by kernel_rfl)).cast (congrArg vb h2)) ?_
    refine DSteps.cons (DStep.va) ?_
    refine DSteps.cons (DStep.call rfl (by kernel_rfl) (by kernel_rfl) (by kernel_rfl) (args := []) (by kernel_rfl) (by kernel_rfl) (awakeM_ok ) (by kernel_rfl) (Nat.le_of_ble_eq_true (by kernel_rfl))) ?_
    refine DSteps.cons (DStep.va) ?_
    refine DSteps.cons (DStep.va) ?_
    exact DSteps.nl
   refine AWp.ret ?_
   exact leafR (r := vb (awakeM )) (by unfold lChecksM; (try rw [h1]); (try rw [h2]); try kernel_rfl)
  ·
   refine AWp.dz [.agg (avs (MsgV.cells m)), vi (mCheckM m), .agg (avs (MsgV.cells m)), vi (rmCheckM m), vb false, vb false, .tuple [], vb false, vb false] 15 [(2, vb false)] [] 1 ?_ ?_
   ·
    refine DSteps.cons (DStep.va) ?_
    refine DSteps.cons (DStep.call rfl (by kernel_rfl) (by kernel_rfl) (by kernel_rfl) (args := [.agg (avs (MsgV.cells m))]) (by kernel_rfl) (by kernel_rfl) (mCheckM_ok m (by first | with_reducible assumption | with_reducible exact small_d (by with_reducible assumption) | with_reducible exact small_i (by with_reducible assumption) | with_reducible exact small_l (by with_reducible assumption) | with_reducible exact small_c (by with_reducible assumption) | with_reducible exact small_n (by with_reducible assumption) | with_reducible exact dec_d (by with_reducible assumption) | with_reducible exact dec_i (by with_reducible assumption) | with_reducible exact dec_l (by with_reducible assumption) | with_reducible exact dec_c (by with_reducible assumption) | with_reducible exact dec_n (by with_reducible assumption) | with_reducible exact app_size (by with_reducible assumption) (Nat.le_refl _) | with_reducible exact cut_size (by with_reducible assumption) | omega)) (by kernel_rfl) (Nat.le_of_ble_eq_true (by kernel_rfl))) ?_
    refine DSteps.cons (DStep.va) ?_
    refine DSteps.cons (DStep.call rfl (by kernel_rfl) (by kernel_rfl) (by kernel_rfl) (args := [.agg (avs (MsgV.cells m))]) (by kernel_rfl) (by kernel_rfl) (rmCheckM_ok m (by first | with_reducible assumption | with_reducible exact small_d (by with_reducible assumption) | with_reducible exact small_i (by with_reducible assumption) | with_reducible exact small_l (by with_reducible assumption) | with_reducible exact small_c (by with_reducible assumption) | with_reducible exact small_n (by with_reducible assumption) | with_reducible exact dec_d (by with_reducible assumption) | with_reducible exact dec_i (by with_reducible assumption) | with_reducible exact dec_l (by with_reducible assumption) | with_reducible exact dec_c (by with_reducible assumption) | with_reducible exact dec_n (by with_reducible assumption) | with_reducible exact app_size (by with_reducible assumption) (Nat.le_refl _) | with_reducible exact cut_size (by with_reducible assumption) | omega)) (by kernel_rfl) (Nat.le_of_ble_eq_true (by kernel_rfl))) ?_
    refine DSteps.cons ((DStep.val (v := vb (mCheckM m == rmCheckM m)) (by kernel_rfl) (by kernel_rfl)).cast (congrArg vb h2)) ?_
    refine DSteps.cons (DStep.va) ?_
    refine DSteps.cons (DStep.skip (by kernel_rfl)) ?_
    refine DSteps.cons (DStep.va) ?_
    refine DSteps.cons (DStep.va) ?_
    exact DSteps.nl
   refine AWp.ret ?_
   exact leafR (r := vb false) (by unfold lChecksM; (try rw [h1]); (try rw [h2]); try kernel_rfl)
def lCanonicalM (s : ByteArray) (c : Int) : Bool :=
 (bif decide ((s.size : Int) > 1200) then awakeM  else (bif (((decodeM s).2) != 0) then (msameM ((decodeM s).1) (⟨0, 0, 0, 0, [], ⟨#[]⟩, ⟨#[]⟩, ⟨#[]⟩⟩ : MsgV) && awakeM ) else (bif (((mCheckM ((decodeM s).1) != 0) || ((((encodeM ((decodeM s).1)).2) != 0) || !beqS ((encodeM ((decodeM s).1)).1) s)) || ((s.size : Int) == 0)) then false else (((((decodeM (s ++ (bytesOf ([c])))).2) == 23) && (((decodeM (s.extract 0 (((s.size : Int) - 1).toNat))).2) != 0)) && awakeM ))))
theorem lCanonicalM_ok (s : ByteArray) (c : Int) :
 ACalls Try.prog G_ 7 [vs s, .rv (.v (.int .u8 c))] [] 0 (fun r τ => r = vb (lCanonicalM s c) ∧ τ = []) := by
 refine ACalls.body Try.func7 rfl 75 [(0, vs s), (1, .rv (.v (.int .u8 c)))] ?_
 refine AWp.hz [.run 1] 75 [(0, vs s), (1, .rv (.v (.int .u8 c)))] [] 0 ?_
 refine AWp.seq ?_
 refine AWp.hz [.run 3] 75 [(0, vs s), (1, .rv (.v (.int .u8 c))), (11, vb (decide ((s.size : Int) > 1200)))] [] 0 ?_
 refine AWp.cnd (decide ((s.size : Int) > 1200)) (fun h1 => ?_) (fun h1 => ?_)
 ·
  have h1' := of_decide_eq_true h1
  refine AWp.hz [.call 10 [] (vb (awakeM )) [] 0 (awakeM_ok ), .run 1] 75 [(4, vb (awakeM ))] [] 0 ?_
  refine AWp.ret ?_
  exact leafR (r := vb (awakeM )) (by unfold lCanonicalM; (try rw [h1]); try kernel_rfl)
 ·
  have h1' := of_decide_eq_false h1
  refine AWp.skip ?_
  refine AWp.hz [.run 1, .call 15 [vs s] (.tuple [.agg (avs (MsgV.cells ((decodeM s).1))), vi ((decodeM s).2)]) [] 0 (decodeM_ok s (by first | with_reducible assumption | with_reducible exact small_d (by with_reducible assumption) | with_reducible exact small_i (by with_reducible assumption) | with_reducible exact small_l (by with_reducible assumption) | with_reducible exact small_c (by with_reducible assumption) | with_reducible exact small_n (by with_reducible assumption) | with_reducible exact dec_d (by with_reducible assumption) | with_reducible exact dec_i (by with_reducible assumption) | with_reducible exact dec_l (by with_reducible assumption) | with_reducible exact dec_c (by with_reducible assumption) | with_reducible exact dec_n (by with_reducible assumption) | with_reducible exact app_size (by with_reducible assumption) (Nat.le_refl _) | with_reducible exact cut_size (by with_reducible assumption) | omega)), .run 6] 75 [(0, vs s), (1, .rv (.v (.int .u8 c))), (5, .ptr 0 0), (6, vi ((decodeM s).2))] [(0, .box 24 (avs (MsgV.cells ((decodeM s).1))))] 1 ?_
  refine AWp.seq ?_
  refine AWp.hz [.run 2] 75 [(0, vs s), (1, .rv (.v (.int .u8 c))), (5, .ptr 0 0), (19, vb (((decodeM s).2) != 0))] [(0, .box 24 (avs (MsgV.cells ((decodeM s).1))))] 1 ?_
  refine AWp.cnd ((((decodeM s).2) != 0)) (fun h2 => ?_) (fun h2 => ?_)
  ·
   refine AWp.join (Z 75 [(4, vb (msameM ((decodeM s).1) (⟨0, 0, 0, 0, [], ⟨#[]⟩, ⟨#[]⟩, ⟨#[]⟩⟩ : MsgV) && awakeM ))] [] 1) ?_ ?_
   ·
    refine AWp.region ?_
    refine AOps.hg [.run 2, .nils 21 [none, none, none, none, some 7, none, none, none], .call 17 [.agg (avs (MsgV.cells ((decodeM s).1))), .agg [vi 0, vi 0, vi 0, vi 0, .rv (.sl 7 (([]).map ItemV.cells)), vs (⟨#[]⟩), vs (⟨#[]⟩), vs (⟨#[]⟩)]] (vb (msameM ((decodeM s).1) (⟨0, 0, 0, 0, [], ⟨#[]⟩, ⟨#[]⟩, ⟨#[]⟩⟩ : MsgV))) [] 0 (msameM_ok ((decodeM s).1) (⟨0, 0, 0, 0, [], ⟨#[]⟩, ⟨#[]⟩, ⟨#[]⟩⟩ : MsgV)), .run 1] (msameM ((decodeM s).1) (⟨0, 0, 0, 0, [], ⟨#[]⟩, ⟨#[]⟩, ⟨#[]⟩⟩ : MsgV)) 75 (fun b_ => [(23, vb b_)]) [] 1 (fun hg3 => ?_) (fun hg3 => ?_)
    ·
     refine AOps.he [.call 10 [] (vb (awakeM )) [] 0 (awakeM_ok ), .run 2] 75 [(4, vb (awakeM ))] [] 1 ?_
     exact leZ (by rw [hg3]; try kernel_rfl)
    ·
     refine AOps.he [.run 3] 75 [(4, vb false)] [] 1 ?_
     exact leZ (by rw [hg3]; try kernel_rfl)
   ·
    refine AWp.ret ?_
    exact leafR (r := vb (msameM ((decodeM s).1) (⟨0, 0, 0, 0, [], ⟨#[]⟩, ⟨#[]⟩, ⟨#[]⟩⟩ : MsgV) && awakeM )) (by unfold lCanonicalM; (try rw [h1]); (try rw [h2]); try kernel_rfl)
  ·
   refine AWp.skip ?_
   refine AWp.hz [.run 1, .call 13 [.agg (avs (MsgV.cells ((decodeM s).1)))] (.tuple [vs ((encodeM ((decodeM s).1)).1), vi ((encodeM ((decodeM s).1)).2)]) [] 0 (encodeM_ok ((decodeM s).1) (by first | with_reducible assumption | with_reducible exact small_d (by with_reducible assumption) | with_reducible exact small_i (by with_reducible assumption) | with_reducible exact small_l (by with_reducible assumption) | with_reducible exact small_c (by with_reducible assumption) | with_reducible exact small_n (by with_reducible assumption) | with_reducible exact dec_d (by with_reducible assumption) | with_reducible exact dec_i (by with_reducible assumption) | with_reducible exact dec_l (by with_reducible assumption) | with_reducible exact dec_c (by with_reducible assumption) | with_reducible exact dec_n (by with_reducible assumption) | with_reducible exact app_size (by with_reducible assumption) (Nat.le_refl _) | with_reducible exact cut_size (by with_reducible assumption) | omega) (by first | with_reducible assumption | with_reducible exact small_d (by with_reducible assumption) | with_reducible exact small_i (by with_reducible assumption) | with_reducible exact small_l (by with_reducible assumption) | with_reducible exact small_c (by with_reducible assumption) | with_reducible exact small_n (by with_reducible assumption) | with_reducible exact dec_d (by with_reducible assumption) | with_reducible exact dec_i (by with_reducible assumption) | with_reducible exact dec_l (by with_reducible assumption) | with_reducible exact dec_c (by with_reducible assumption) | with_reducible exact dec_n (by with_reducible assumption) | with_reducible exact app_size (by with_reducible assumption) (Nat.le_refl _) | with_reducible exact cut_size (by with_reducible assumption) | omega) (by first | with_reducible assumption | with_reducible exact small_d (by with_reducible assumption) | with_reducible exact small_i (by with_reducible assumption) | with_reducible exact small_l (by with_reducible assumption) | with_reducible exact small_c (by with_reducible assumption) | with_reducible exact small_n (by with_reducible assumption) | with_reducible exact dec_d (by with_reducible assumption) | with_reducible exact dec_i (by with_reducible assumption) | with_reducible exact dec_l (by with_reducible assumption) | with_reducible exact dec_c (by with_reducible assumption) | with_reducible exact dec_n (by with_reducible assumption) | with_reducible exact app_size (by with_reducible assumption) (Nat.le_refl _) | with_reducible exact cut_size (by with_reducible assumption) | omega) (by first | with_reducible assumption | with_reducible exact small_d (by with_reducible assumption) | with_reducible exact small_i (by with_reducible assumption) | with_reducible exact small_l (by with_reducible assumption) | with_reducible exact small_c (by with_reducible assumption) | with_reducible exact small_n (by with_reducible assumption) | with_reducible exact dec_d (by with_reducible assumption) | with_reducible exact dec_i (by with_reducible assumption) | with_reducible exact dec_l (by with_reducible assumption) | with_reducible exact dec_c (by with_reducible assumption) | with_reducible exact dec_n (by with_reducible assumption) | with_reducible exact app_size (by with_reducible assumption) (Nat.le_refl _) | with_reducible exact cut_size (by with_reducible assumption) | omega) (by first | with_reducible assumption | with_reducible exact small_d (by with_reducible assumption) | with_reducible exact small_i (by with_reducible assumption) | with_reducible exact small_l (by with_reducible assumption) | with_reducible exact small_c (by with_reducible assumption) | with_reducible exact small_n (by with_reducible assumption) | with_reducible exact dec_d (by with_reducible assumption) | with_reducible exact dec_i (by with_reducible assumption) | with_reducible exact dec_l (by with_reducible assumption) | with_reducible exact dec_c (by with_reducible assumption) | with_reducible exact dec_n (by with_reducible assumption) | with_reducible exact app_size (by with_reducible assumption) (Nat.le_refl _) | with_reducible exact cut_size (by with_reducible assumption) | omega)), .run 5] 75 [(0, vs s), (1, .rv (.v (.int .u8 c))), (5, .ptr 0 0), (7, vs ((encodeM ((decodeM s).1)).1)), (8, vi ((encodeM ((decodeM s).1)).2))] [(0, .box 24 (avs (MsgV.cells ((decodeM s).1))))] 1 ?_
   refine AWp.seq ?_
   refine AWp.join (Z 75 [(0, vs s), (1, .rv (.v (.int .u8 c))), (47, vb (((mCheckM ((decodeM s).1) != 0) || ((((encodeM ((decodeM s).1)).2) != 0) || !beqS ((encodeM ((decodeM s).1)).1) s)) || ((s.size : Int) == 0)))] [] 1) ?_ ?_
   ·
    refine AWp.region ?_
    refine AOps.hg [.run 1, .call 11 [.agg (avs (MsgV.cells ((decodeM s).1)))] (vi (mCheckM ((decodeM s).1))) [] 0 (mCheckM_ok ((decodeM s).1) (by first | with_reducible assumption | with_reducible exact small_d (by with_reducible assumption) | with_reducible exact small_i (by with_reducible assumption) | with_reducible exact small_l (by with_reducible assumption) | with_reducible exact small_c (by with_reducible assumption) | with_reducible exact small_n (by with_reducible assumption) | with_reducible exact dec_d (by with_reducible assumption) | with_reducible exact dec_i (by with_reducible assumption) | with_reducible exact dec_l (by with_reducible assumption) | with_reducible exact dec_c (by with_reducible assumption) | with_reducible exact dec_n (by with_reducible assumption) | with_reducible exact app_size (by with_reducible assumption) (Nat.le_refl _) | with_reducible exact cut_size (by with_reducible assumption) | omega)), .run 2] ((mCheckM ((decodeM s).1) != 0)) 75 (fun b_ => [(0, vs s), (1, .rv (.v (.int .u8 c))), (7, vs ((encodeM ((decodeM s).1)).1)), (8, vi ((encodeM ((decodeM s).1)).2)), (34, vb b_)]) [] 1 (fun hg4 => ?_) (fun hg4 => ?_)
    ·
     refine AOps.he [.run 13] 75 [(0, vs s), (1, .rv (.v (.int .u8 c))), (47, vb true)] [] 1 ?_
     exact leZ (by rw [hg4]; try kernel_rfl)
    ·
     refine AOps.hg [.run 4] ((((encodeM ((decodeM s).1)).2) != 0)) 75 (fun b_ => [(0, vs s), (1, .rv (.v (.int .u8 c))), (7, vs ((encodeM ((decodeM s).1)).1)), (38, vb b_)]) [] 1 (fun hg5 => ?_) (fun hg5 => ?_)
     ·
      refine AOps.he [.run 9] 75 [(0, vs s), (1, .rv (.v (.int .u8 c))), (47, vb true)] [] 1 ?_
      exact leZ (by rw [hg4, hg5]; try kernel_rfl)
     ·
      refine AOps.hg [.run 5] (!beqS ((encodeM ((decodeM s).1)).1) s) 75 (fun b_ => [(0, vs s), (1, .rv (.v (.int .u8 c))), (43, vb b_)]) [] 1 (fun hg6 => ?_) (fun hg6 => ?_)
      ·
       refine AOps.he [.run 4] 75 [(0, vs s), (1, .rv (.v (.int .u8 c))), (47, vb true)] [] 1 ?_
       exact leZ (by rw [hg4, hg5, hg6]; try kernel_rfl)
      ·
       refine AOps.he [.run 4] 75 [(0, vs s), (1, .rv (.v (.int .u8 c))), (47, vb ((s.size : Int) == 0))] [] 1 ?_
       exact leZ (by rw [hg4, hg5, hg6]; try kernel_rfl)
   ·
    refine AWp.cnd ((((mCheckM ((decodeM s).1) != 0) || ((((encodeM ((decodeM s).1)).2) != 0) || !beqS ((encodeM ((decodeM s).1)).1) s)) || ((s.size : Int) == 0))) (fun h7 => ?_) (fun h7 => ?_)
    ·
     refine AWp.hz [.run 1] 75 [(4, vb false)] [] 1 ?_
     refine AWp.ret ?_
     exact leafR (r := vb false) (by unfold lCanonicalM; (try rw [h1]); (try rw [h2]); (try rw [h7]); try kernel_rfl)
    ·
     have h7l := or_fl h7
     have h7ll := or_fl h7l
     have h7lr := or_fr h7l
     have h7lrl := or_fl h7lr
     have h7lrr := or_fr h7lr
     have h7r := or_fr h7
     have h7r' := beq_f h7r
     refine AWp.skip ?_
     refine AWp.rg ?_
     refine AOps.hz [.run 2, .lit 5 1 (List.map u8C [c])] 75 [(0, vs s), (49, vs s), (51, .rv (.sl 1 (([c]).map u8C)))] [] 1 ?_
     refine AOps.str ([c]) (.tmp 51) ?_
     have hc8 : s.size + (bytesOf ([c])).size ≤ 9223372036854775807 := by first | omega | (rw [bytesOf_size]; simp only [List.length_cons, List.length_nil]; omega)
     refine AOps.cat s (bytesOf ([c])) (.tmp 49) (.tmp 52) hc8 ?_
     refine AOps.he [.call 15 [vs (s ++ (bytesOf ([c])))] (.tuple [.agg (avs (MsgV.cells ((decodeM (s ++ (bytesOf ([c])))).1))), vi ((decodeM (s ++ (bytesOf ([c])))).2)]) [] 0 (decodeM_ok (s ++ (bytesOf ([c]))) (by first | with_reducible assumption | with_reducible exact small_d (by with_reducible assumption) | with_reducible exact small_i (by with_reducible assumption) | with_reducible exact small_l (by with_reducible assumption) | with_reducible exact small_c (by with_reducible assumption) | with_reducible exact small_n (by with_reducible assumption) | with_reducible exact dec_d (by with_reducible assumption) | with_reducible exact dec_i (by with_reducible assumption) | with_reducible exact dec_l (by with_reducible assumption) | with_reducible exact dec_c (by with_reducible assumption) | with_reducible exact dec_n (by with_reducible assumption) | with_reducible exact app_size (by with_reducible assumption) (Nat.le_refl _) | with_reducible exact cut_size (by with_reducible assumption) | omega)), .run 4] 75 [(0, vs s), (6, vi ((decodeM (s ++ (bytesOf ([c])))).2))] [] 1 ?_
     have ht9 : IntKind.i64.wrap ((s.size : Int) - 1) = ((((s.size : Int) - 1).toNat : Nat) : Int) := by rw [wrap64_of _ (by omega) (by omega)]; exact (Int.toNat_of_nonneg (by omega)).symm
     refine AWp.hz [.run 4, .slot 61 (vi (IntKind.i64.wrap ((s.size : Int) - 1))) (vi ((((s.size : Int) - 1).toNat : Nat) : Int)) (congrArg vi ht9), .slcS s none (some (((s.size : Int) - 1).toNat)) (by first | omega | (simp only [Option.getD_some, Option.getD_none]; omega)) (by first | omega | (simp only [Option.getD_some, Option.getD_none]; omega)), .call 15 [vs (s.extract 0 (((s.size : Int) - 1).toNat))] (.tuple [.agg (avs (MsgV.cells ((decodeM (s.extract 0 (((s.size : Int) - 1).toNat))).1))), vi ((decodeM (s.extract 0 (((s.size : Int) - 1).toNat))).2)]) [] 0 (decodeM_ok (s.extract 0 (((s.size : Int) - 1).toNat)) (by first | with_reducible assumption | with_reducible exact small_d (by with_reducible assumption) | with_reducible exact small_i (by with_reducible assumption) | with_reducible exact small_l (by with_reducible assumption) | with_reducible exact small_c (by with_reducible assumption) | with_reducible exact small_n (by with_reducible assumption) | with_reducible exact dec_d (by with_reducible assumption) | with_reducible exact dec_i (by with_reducible assumption) | with_reducible exact dec_l (by with_reducible assumption) | with_reducible exact dec_c (by with_reducible assumption) | with_reducible exact dec_n (by with_reducible assumption) | with_reducible exact app_size (by with_reducible assumption) (Nat.le_refl _) | with_reducible exact cut_size (by with_reducible assumption) | omega)), .run 4] 75 [(6, vi ((decodeM (s ++ (bytesOf ([c])))).2)), (8, vi ((decodeM (s.extract 0 (((s.size : Int) - 1).toNat))).2))] [] 1 ?_
     refine AWp.join (Z 75 [(4, vb (((((decodeM (s ++ (bytesOf ([c])))).2) == 23) && (((decodeM (s.extract 0 (((s.size : Int) - 1).toNat))).2) != 0)) && awakeM ))] [] 1) ?_ ?_
     ·
      refine AWp.region ?_
      refine AOps.hg [.run 3] ((((decodeM (s ++ (bytesOf ([c])))).2) == 23)) 75 (fun b_ => [(8, vi ((decodeM (s.extract 0 (((s.size : Int) - 1).toNat))).2)), (68, vb b_)]) [] 1 (fun hg10 => ?_) (fun hg10 => ?_)
      ·
       refine AOps.hg [.run 4] ((((decodeM (s.extract 0 (((s.size : Int) - 1).toNat))).2) != 0)) 75 (fun b_ => [(72, vb b_)]) [] 1 (fun hg11 => ?_) (fun hg11 => ?_)
       ·
        have hg11' := bne_t hg11
        refine AOps.he [.call 10 [] (vb (awakeM )) [] 0 (awakeM_ok ), .run 2] 75 [(4, vb (awakeM ))] [] 1 ?_
        exact leZ (by rw [hg10, hg11]; try kernel_rfl)
       ·
        have hg11' := bne_f hg11
        refine AOps.he [.run 3] 75 [(4, vb false)] [] 1 ?_
        exact leZ (by rw [hg10, hg11]; try kernel_rfl)
      ·
       refine AOps.he [.run 7] 75 [(4, vb false)] [] 1 ?_
       exact leZ (by rw [hg10]; try kernel_rfl)
     ·
      refine AWp.ret ?_
      exact leafR (r := vb (((((decodeM (s ++ (bytesOf ([c])))).2) == 23) && (((decodeM (s.extract 0 (((s.size : Int) - 1).toNat))).2) != 0)) && awakeM )) (by unfold lCanonicalM; (try rw [h1]); (try rw [h2]); (try rw [h7]); try kernel_rfl)
end Go.Proofs.Ytnnlaccdendkpaa
