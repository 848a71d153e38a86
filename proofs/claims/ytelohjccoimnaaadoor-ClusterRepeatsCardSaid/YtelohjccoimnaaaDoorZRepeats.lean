/- The statement ClusterRepeats of chapter 21 holds. Conditions: none but those of the given card. -/
import Derived.Test.YtelohjccoimnaaaDoorPrepeats
import Derived.Test.YtelohjccoimnaaaDoorBr
import Derived.Test.YtelohjccoimnaaaDoorCards
import Derived.Test.YtelohjccoimnaaaDoorTie
import Derived.SevenTiedAt
namespace Go.Proofs.YtelohjccoimnaaaDoor
open Go Go.Av Go.Hh Go.Proofs Go.ChangeShapes Go.WideShapes Go.ChangeAt Go.WideMaps Go.WideElems Go.RowKit
set_option maxRecDepth 100000
set_option maxHeartbeats 4000000
theorem clusterRepeats_lifted (os : Os) (started : os.Started) (H : Type) (enc : TypeId × Value → H) :
    ReturnsInHanded {} Tryd.checked os 7 .any (fun w args => (Rows.clusterRepeatsSpec.pre enc Tryd.prog Tryd.f7 [] false w args ∧ laidMetH Tryd.prog laidL w) ∧ sizedMet enc Tryd.prog Tryd.f7 (OpenSpec.ofChange Rows.clusterRepeatsSpec) false w args)
      (Rows.clusterRepeatsSpec.post enc Tryd.prog Tryd.f7 false true false false) := by
  refine returnsInHanded_of_change_and (C := Tryd.checked) (X := fun w _ => laidMetH Tryd.prog laidL w) (fun _ _ _ hh h => h.of_heap hh) own started (by kernel_rfl) Tryd.func7
    (ChangeSpec.witness_shaped (enc := enc) (C := Tryd.checked) (os := os) (X := fun w _ => laidMetH Tryd.prog laidL w) false (World.doorLaid Tryd.prog 400 os) #[.agg #[.string ByteArray.empty, .slice none 0 0, .slice none 0 0, .slice none 0 0], .string ByteArray.empty, .agg #[.int .i64 0, .int .i64 0, .string ByteArray.empty], .slice none 0 0] 20 rfl (World.shaped_of_RefB (by kernel_rfl) (by kernel_rfl)) (by kernel_rfl) (by kernel_rfl) (by kernel_rfl) (door_met os _)) ?_
  intro W base args ds gs before hval0 hW _ _ hL _
  have hval : ∀ (j : Nat) t v, Tryd.f7.params[j]? = some t → args[j]? = some v → Value.okWide Tryd.prog W .any base t v := hval0
  have hW' := hW
  obtain ⟨p, q, hA0, hV, rfl, hfz, hnd⟩ := hW
  have hA : DataW.TrodAll enc Tryd.prog W 0 (fun _ => true) true Tryd.f7.params.toList args.toList ds p := hA0
  rw [Tryd.params7] at hA hval
  obtain ⟨rfl, rfl⟩ := trodVars_none hV
  obtain ⟨al⟩ := args
  simp only at hA
  obtain ⟨v0, rest0, d0, ds0, q0, qr0, rfl, rfl, rfl, h0, hA⟩ := trodAll_cons hA
  obtain ⟨v1, rest1, d1, ds1, q1, qr1, rfl, rfl, rfl, h1, hA⟩ := trodAll_cons hA
  obtain ⟨v2, rest2, d2, ds2, q2, qr2, rfl, rfl, rfl, h2, hA⟩ := trodAll_cons hA
  obtain ⟨v3, rest3, d3, ds3, q3, qr3, rfl, rfl, rfl, h3, hA⟩ := trodAll_cons hA
  obtain ⟨rfl, rfl, rfl⟩ := trodAll_nil hA
  obtain ⟨cs0, rfl⟩ := okAgg (hval 0 26 v0 rfl rfl) (by kernel_rfl)
  obtain ⟨rs0, hsh0, hr0⟩ := (arg_fits kids (m := 20) (by kernel_rfl) h0).agg (β := fun _ => undef) (N := 0)
  obtain ⟨a0, rfl⟩ := sh_26 hsh0
  obtain ⟨r1, hsh1, hr1⟩ := (arg_fits kids (m := 20) (by kernel_rfl) h1).one (okOne (hval 1 9 v1 rfl rfl) (by kernel_rfl)) (β := fun _ => undef) (N := 0)
  obtain ⟨a1, he1, _⟩ := hsh1.str_inv (by kernel_rfl)
  simp only [List.cons.injEq, and_true] at he1
  subst he1
  obtain ⟨cs2, rfl⟩ := okAgg (hval 2 44 v2 rfl rfl) (by kernel_rfl)
  obtain ⟨rs2, hsh2, hr2⟩ := (arg_fits kids (m := 20) (by kernel_rfl) h2).agg (β := fun _ => undef) (N := 0)
  obtain ⟨a2, rfl⟩ := sh_44 hsh2
  obtain ⟨r3, hsh3, hr3⟩ := (arg_fits kids (m := 20) (by kernel_rfl) h3).one (okOne (hval 3 45 v3 rfl rfl) (by kernel_rfl)) (β := fun _ => undef) (N := 0)
  obtain ⟨es3, he3, _, hs3⟩ := hsh3.slice_inv (e := 44) (by kernel_rfl)
  obtain ⟨a3, rfl⟩ := list_of (C := Val.cells) fun x hx => sh_44 (hs3 x hx)
  simp only [List.cons.injEq, and_true] at he3
  subst he3
  exact law_post (β := fun _ => undef) hW' rfl rfl (by kernel_rfl) (tb := 4) (by kernel_rfl) kids full (by rw [Tryd.params7]; decide) (avs' := [.agg (avs (Cluster.cells a0)), vs a1, .agg (avs (Val.cells a2)), .rv (.sl 3 (a3.map Val.cells))]) rfl (fun i x hx => by
    match i, hx with
    | 0, hx => simp only [List.getElem?_cons_succ, List.getElem?_cons_zero, Option.some.injEq] at hx; subst hx; exact hr0
    | 1, hx => simp only [List.getElem?_cons_succ, List.getElem?_cons_zero, Option.some.injEq] at hx; subst hx; exact hr1
    | 2, hx => simp only [List.getElem?_cons_succ, List.getElem?_cons_zero, Option.some.injEq] at hx; subst hx; exact hr2
    | 3, hx => simp only [List.getElem?_cons_succ, List.getElem?_cons_zero, Option.some.injEq] at hx; subst hx; exact hr3
    | i + 4, hx => simp at hx) (glob_met hL) (lRepeatsM_true a0 a1 a2 a3 ▸ lRepeatsM_ok a0 a1 a2 a3)
theorem clusterRepeats_row : Rows.ClusterRepeatsSaid :=
  OpenClaim.holds_of_wide 7 Tryd.f7 rfl rfl rfl rfl rfl rfl rfl ⟨rfl, rfl, rfl, rfl, rfl⟩ rfl rfl rfl rfl rfl (by kernel_rfl) Tryd.func7 (by kernel_rfl)
    (of_decide_eq_true (by kernel_rfl)) (by unfold Func.isWrapper; first | (rw [if_pos (by decide +kernel)]; kernel_rfl) | (rw [if_neg (by decide +kernel)]; exact ⟨rfl, rfl⟩))
    (fun os started H enc _ => clusterRepeats_lifted os started H enc)
theorem clusterRepeats_holds : Rows.ClusterRepeatsCardSaid :=
  Claim7.holds_tied_plain_at .later [] [.data] true (true, "1d4e92cfaf7d7590f9157579c0b6641fd5a1ec0285a17824413f154db8482270") false
    clusterRepeats_row (fun _ h => by cases h) (by kernel_rfl) (fun _ h => by cases h) clusterRepeats_row_tie rfl ⟨rfl, rfl⟩ (by kernel_rfl) rfl
    (fun f fn hf hfn => by
      obtain rfl : f = 7 := Option.some.inj ((show Tryd.prog.funcNamed "homehub/homehublaw21.ClusterRepeats" = some 7 by kernel_rfl).symm.trans hf) |>.symm
      obtain rfl : fn = Tryd.f7 := (Option.some.inj (Tryd.func7.symm.trans hfn)).symm
      exact ⟨by kernel_rfl, fun j t ht => by
        rw [Tryd.params7] at ht
        have hm : t ∈ [26, 9, 44, 45] := by simpa using Array.mem_of_getElem? ht
        have hall : ([26, 9, 44, 45].all fun u => !Tryd.prog.wantsStandIn u) = true := by kernel_rfl
        exact (show Tryd.prog.wantsStandIn t = false by simpa using List.all_eq_true.1 hall t hm)⟩)
    (by kernel_rfl)
#print axioms clusterRepeats_holds
end Go.Proofs.YtelohjccoimnaaaDoor
