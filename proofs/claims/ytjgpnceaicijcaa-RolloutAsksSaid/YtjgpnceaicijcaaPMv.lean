/- The AV calculus, part V: a region walked by a list of hints, checked at once; short forms for printed proofs. Conditions: none. -/
import Derived.Test.YtjgpnceaicijcaaPMu
namespace Go.Av
open Go

section
variable {P : Program} {G : Glob} {Q : Exit → St → Prop} {s s' : St}

/-- The operations of a region, walked: what the hints found, and the last state. -/
def xops (P : Program) (G : Glob) (ops : Array Oper) : List (Hint P G) → List Oper → St → Option (List AV × St)
  | [], _, s => some ([], s)
  | h :: hs, l, s => match h with
    | .run n => match aops P G ops n l s with
      | some s' => xops P G ops hs (l.drop n) s'
      | none => none
    | .nils k m => xops P G ops hs l (s.nils k m)
    | .frz id => xops P G ops hs l (frz s id)
    | .slot k _ v _ => match s.slots[k]? with
      | some a => match xops P G ops hs l { s with slots := s.slots.set k v } with
        | some (as, s2) => some (a :: as, s2)
        | none => none
      | none => none
    | .nrow k e n => match s.slots[k]?, Nat.ble s.base s.next with
      | some (.rv (.v (.slice none 0 0))), true => xops P G ops hs l { s with slots := s.slots.set k (.sl s.next), heap := (s.next, .row false e n []) :: s.heap, next := s.next + 1 }
      | _, _ => none
    | h' => match l with
      | o :: r => match gwant ops s o with
        | some true => match hstep P G o s h' with
          | some (a, s') => match xops P G ops hs r s' with
            | some (as, s2) => some (a :: as, s2)
            | none => none
          | none => none
        | _ => none
      | [] => none

def hexps : List (Hint P G) → List AV
  | [] => []
  | h :: hs => match h with
    | .run _ => hexps hs
    | .nils _ _ => hexps hs
    | .frz _ => hexps hs
    | .nrow _ _ _ => hexps hs
    | h' => hexp h' :: hexps hs

/-- How many operations. -/
def hcount : List (Hint P G) → Nat
  | [] => 0
  | h :: hs => match h with
    | .run n => n + hcount hs
    | .nils _ _ => hcount hs
    | .frz _ => hcount hs
    | .nrow _ _ _ => hcount hs
    | .slot _ _ _ _ => hcount hs
    | _ => 1 + hcount hs

def hkind : Hint P G → Nat
  | .run _ => 0
  | .nils _ _ => 1
  | .frz _ => 2
  | .slot _ _ _ _ => 4
  | .nrow _ _ _ => 5
  | _ => 3

theorem xops_one {ops : Array Oper} {h : Hint P G} {hs : List (Hint P G)} {l : List Oper} {s : St} (hk : hkind h = 3) : xops P G ops (h :: hs) l s = (match l with
      | o :: r => match gwant ops s o with
        | some true => match hstep P G o s h with
          | some (a, s') => match xops P G ops hs r s' with
            | some (as, s2) => some (a :: as, s2)
            | none => none
          | none => none
        | _ => none
      | [] => none) ∧ hexps (h :: hs) = hexp h :: hexps hs ∧ hcount (h :: hs) = 1 + hcount hs := by
  cases h <;> first | exact ⟨rfl, rfl, rfl⟩ | simp [hkind] at hk

theorem AOps.hints {ops : Array Oper} : ∀ (hs : List (Hint P G)) {l : List Oper} {s s2 : St} {as : List AV}, xops P G ops hs l s = some (as, s2) → as = hexps hs → AOps P G ops Q (l.drop (hcount hs)) s2 → AOps P G ops Q l s
  | [], l, s, s2, as, h, _, k => by
    simp only [xops, Option.some.injEq, Prod.mk.injEq] at h
    obtain ⟨_, rfl⟩ := h
    simpa [hcount] using k
  | h :: hs, l, s, s2, as, hx, ha, k => by
    have hk : hkind h = 0 ∨ hkind h = 1 ∨ hkind h = 2 ∨ hkind h = 4 ∨ hkind h = 5 ∨ hkind h = 3 := by cases h <;> simp [hkind]
    rcases hk with hk | hk | hk | hk | hk | hk
    · cases h with
      | run n =>
        simp only [xops] at hx
        simp only [hcount] at k
        split at hx
        · rename_i s1 h1
          exact AOps.run n h1 (AOps.hints hs hx ha (by rw [List.drop_drop]; exact k))
        · cases hx
      | _ => simp [hkind] at hk
    · cases h with
      | nils i m => exact AOps.le (Le.nils i m rfl) (AOps.hints hs hx ha k)
      | _ => simp [hkind] at hk
    · cases h with
      | frz i => exact AOps.le (Le.frz s i) (AOps.hints hs hx ha k)
      | _ => simp [hkind] at hk
    · cases h with
      | slot i u v huv =>
        simp only [xops] at hx
        simp only [hcount] at k
        split at hx
        · rename_i a h1
          split at hx
          · rename_i as' s3 h2
            simp only [Option.some.injEq, Prod.mk.injEq] at hx
            obtain ⟨rfl, rfl⟩ := hx
            simp only [hexps, hexp, List.cons.injEq] at ha
            have hset : ({ s with slots := s.slots.set i v } : St) = s := by
              rw [← huv, ← ha.1]
              have : s.slots.set i a = s.slots := by
                apply List.ext_getElem?
                intro j
                rw [List.getElem?_set]
                split
                · rename_i e
                  subst e
                  rw [h1]
                  have := (List.getElem?_eq_some_iff.1 h1).1
                  simp [this]
                · rfl
              rw [this]
            rw [hset] at h2
            exact AOps.hints hs h2 ha.2 k
          · cases hx
        · cases hx
      | _ => simp [hkind] at hk
    · cases h with
      | nrow i e n =>
        simp only [xops] at hx
        simp only [hcount] at k
        split at hx
        · rename_i h1 h2
          exact AOps.le (Le.nilRow i e n h1 (Nat.le_of_ble_eq_true h2) rfl) (AOps.hints hs hx ha k)
        · cases hx
      | _ => simp [hkind] at hk
    · obtain ⟨e1, e2, e3⟩ := xops_one (ops := ops) (hs := hs) (l := l) (s := s) hk
      rw [e1] at hx
      rw [e2] at ha
      rw [e3] at k
      split at hx
      · rename_i o r
        split at hx
        · rename_i hg
          split at hx
          · rename_i a s1 h1
            split at hx
            · rename_i as' s3 h2
              simp only [Option.some.injEq, Prod.mk.injEq] at hx
              obtain ⟨rfl, rfl⟩ := hx
              simp only [List.cons.injEq] at ha
              exact AOps.step hg (hstep_sound h1 ha.1) (AOps.hints hs h2 ha.2 (by rw [Nat.add_comm] at k; exact k))
            · cases hx
          · cases hx
        · cases hx
      · cases hx

/-- A state: n slots, those that are known, the own blocks, the first free name. -/
def Z (n : Nat) (l : List (Nat × AV)) (h : Heap) (m : Nat) : St := ⟨mkSl 0 n l, h, m, 0⟩
def keysH : Heap → List Nat
  | [] => []
  | (k, _) :: r => k :: keysH r
/-- What a state shows of the slots and blocks that are asked for. -/
structure Vw where
  slots : List (Nat × AV)
  heap : Heap
  len : Nat
  base : Nat
def pairs (sl : List AV) : List (Nat × AV) → List (Nat × AV)
  | [] => []
  | (k, _) :: r => (k, sl.getD k .top) :: pairs sl r
def vw (l : List (Nat × AV)) (h : Heap) (s : St) : Vw := ⟨pairs s.slots l, pickH s.heap (keysH h), s.slots.length, s.base⟩
def vwx (l : List (Nat × AV)) (h : Heap) (x : List AV × St) : List AV × Vw × Nat := (x.1, vw l h x.2, x.2.next)

theorem mkSl_at : ∀ {n j : Nat} {l : List (Nat × AV)} {i : Nat} {x : AV}, (mkSl j n l)[i]? = some x → x = .top ∨ (j + i, x) ∈ l
  | 0, _, _, i, x, h => by simp [mkSl] at h
  | n + 1, j, [], i, x, h => by
    cases i with
    | zero => simp [mkSl] at h; exact .inl h.symm
    | succ i =>
      simp only [mkSl, List.getElem?_cons_succ] at h
      rcases mkSl_at h with h | h
      · exact .inl h
      · cases h
  | n + 1, j, (k, v) :: r, i, x, h => by
    simp only [mkSl] at h
    split at h
    · rename_i e
      subst e
      cases i with
      | zero => simp at h; subst h; exact .inr (by simp)
      | succ i =>
        simp only [List.getElem?_cons_succ] at h
        rcases mkSl_at h with h | h
        · exact .inl h
        · exact .inr (List.mem_cons_of_mem _ (by rw [← Nat.add_assoc, Nat.add_right_comm]; exact h))
    · cases i with
      | zero => simp at h; exact .inl h.symm
      | succ i =>
        simp only [List.getElem?_cons_succ] at h
        rcases mkSl_at h with h | h
        · exact .inl h
        · exact .inr (by rw [← Nat.add_assoc, Nat.add_right_comm]; exact h)
theorem mkSl_length : ∀ (n j : Nat) (l : List (Nat × AV)), (mkSl j n l).length = n
  | 0, _, _ => by simp [mkSl]
  | n + 1, j, [] => by simp [mkSl, mkSl_length n]
  | n + 1, j, (k, v) :: r => by
    simp only [mkSl]
    split <;> simp [mkSl_length n]
theorem pairs_mem {sl : List AV} : ∀ {l : List (Nat × AV)}, pairs sl l = l → ∀ {k : Nat} {v : AV}, (k, v) ∈ l → sl.getD k .top = v
  | [], _, k, v, h => by cases h
  | (j, u) :: r, he, k, v, h => by
    simp only [pairs, List.cons.injEq, Prod.mk.injEq, true_and] at he
    rcases List.mem_cons.1 h with h | h
    · cases h; exact he.1
    · exact pairs_mem he.2 h

/-- A state that shows what Z n l h m lists, may be taken for it. -/
theorem le_vw {n : Nat} {l : List (Nat × AV)} {h : Heap} {m : Nat} (he : vw l h s = ⟨l, h, n, 0⟩) (hm : s.next ≤ m) : Le s (Z n l h m) := by
  simp only [vw, Vw.mk.injEq] at he
  obtain ⟨h1, h2, h3, h4⟩ := he
  intro E G a w ⟨β, ro, hr⟩
  have hsub : ∀ id o, hget h id = some o → hget s.heap id = some o := by rw [← h2]; exact pickH_sub s.heap _
  have grow : ∀ x c, ARel w ro s.heap β s.next x c → ARel w ro h β m x c := fun x c hx => (hx.sub hsub).keep (fun _ _ => rfl) (fun _ h => h) hm (fun id t cs hg => ⟨rfl, t, cs, hg⟩) (fun id z t n es hg => ⟨rfl, z, t, es, hg⟩) (fun id Φ hg => ⟨rfl, Φ, hg⟩)
  refine ⟨β, ro, hr.defers, by simp [Z, mkSl_length, ← h3, hr.size], fun i x hx => ?_, ?_, hr.glob, ?_, by show E.n ≤ 0; rw [← h4]; exact hr.base⟩
  · rcases mkSl_at hx with rfl | hx
    · exact .top _
    · rw [Nat.zero_add] at hx
      have hv := pairs_mem h1 hx
      cases hi : s.slots[i]? with
      | none =>
        simp only [List.getD, hi, Option.getD_none] at hv
        subst hv
        exact .top _
      | some y =>
        simp only [List.getD, hi, Option.getD_some] at hv
        subst hv
        exact grow _ _ (hr.slot i _ hi)
  · have hh := hr.heap.sub hsub
    exact ⟨fun id o hg => (hh.objs id o hg).keep (fun _ _ => rfl) (fun _ h => h) hm rfl (fun _ _ _ => rfl) (fun id t cs hg => ⟨rfl, t, cs, hg⟩) (fun id z t n es hg => ⟨rfl, z, t, es, hg⟩) (fun id Φ hg => ⟨rfl, Φ, hg⟩), hh.inj, hh.disj, hh.lt⟩
  · have t := hr.trans.sub hsub
    exact ⟨t.os, t.tape, t.output, t.size, t.frame, t.roSub, t.roKeep, t.ownSub, t.old, fun id o hg => Nat.lt_of_lt_of_le (t.new id o hg) hm, Nat.le_trans t.le hm⟩

theorem AOps.hz {ops : Array Oper} {L : List Oper} (hs : List (Hint P G)) (n : Nat) (l : List (Nat × AV)) (h : Heap) (m : Nat) (k : AOps P G ops Q (L.drop (hcount hs)) (Z n l h m))
    (hx : (xops P G ops hs L s).map (vwx l h) = some (hexps hs, ⟨l, h, n, 0⟩, m) := by as_aux_lemma => kernel_rfl) : AOps P G ops Q L s := by
  cases h1 : xops P G ops hs L s with
  | none => rw [h1] at hx; cases hx
  | some x =>
    obtain ⟨as, s1⟩ := x
    rw [h1] at hx
    simp only [Option.map_some, vwx, Option.some.injEq, Prod.mk.injEq] at hx
    exact AOps.hints hs h1 hx.1 (AOps.le (le_vw hx.2.1 (Nat.le_of_eq hx.2.2)) k)
/-- Operations up to a guard that hangs on b. -/
theorem AOps.hg {ops : Array Oper} {L : List Oper} (hs : List (Hint P G)) (b : Bool) (n : Nat) (l : Bool → List (Nat × AV)) (h : Heap) (m : Nat) (ht : b = true → AOps P G ops Q (L.drop (hcount hs)) (Z n (l true) h m)) (hf : b = false → AOps P G ops Q (L.drop (hcount hs)) (Z n (l false) h m))
    (hx : (xops P G ops hs L s).map (vwx (l b) h) = some (hexps hs, ⟨l b, h, n, 0⟩, m) := by as_aux_lemma => kernel_rfl) : AOps P G ops Q L s := by
  refine AOps.hz hs n (l b) h m ?_ hx
  cases b
  · exact hf rfl
  · exact ht rfl
/-- The last operations of a region. -/
theorem AOps.he {ops : Array Oper} {L : List Oper} (hs : List (Hint P G)) (n : Nat) (l : List (Nat × AV)) (h : Heap) (m : Nat) (k : Q .normal (Z n l h m))
    (hx : (xops P G ops hs L s).map (vwx l h) = some (hexps hs, ⟨l, h, n, 0⟩, m) := by as_aux_lemma => kernel_rfl) (hl : Nat.ble L.length (hcount hs) = true := by as_aux_lemma => kernel_rfl) : AOps P G ops Q L s :=
  AOps.hz hs n l h m (by rw [List.drop_of_length_le (Nat.le_of_ble_eq_true hl)]; exact AOps.nil k) hx
/-- A whole region, and what follows. -/
theorem AWp.hz {id : Nat} {L : List Oper} {c : Code} (hs : List (Hint P G)) (n : Nat) (l : List (Nat × AV)) (h : Heap) (m : Nat) (k : AWp P G c Q (Z n l h m))
    (hx : (xops P G L.toArray hs L s).map (vwx l h) = some (hexps hs, ⟨l, h, n, 0⟩, m) := by as_aux_lemma => kernel_rfl) (hl : Nat.ble L.length (hcount hs) = true := by as_aux_lemma => kernel_rfl) : AWp P G (.seq (.region id L.toArray false) c) Q s :=
  .seq (.region (AOps.he hs n l h m k hx hl))
theorem AWp.he {id : Nat} {L : List Oper} (hs : List (Hint P G)) (n : Nat) (l : List (Nat × AV)) (h : Heap) (m : Nat) (k : Q .normal (Z n l h m))
    (hx : (xops P G L.toArray hs L s).map (vwx l h) = some (hexps hs, ⟨l, h, n, 0⟩, m) := by as_aux_lemma => kernel_rfl) (hl : Nat.ble L.length (hcount hs) = true := by as_aux_lemma => kernel_rfl) : AWp P G (.region id L.toArray false) Q s :=
  .region (AOps.he hs n l h m k hx hl)
theorem AWp.rg {id : Nat} {L : List Oper} {c : Code} (k : AOps P G L.toArray (SeqQ P G c Q) L s) : AWp P G (.seq (.region id L.toArray false) c) Q s := .seq (.region k)

theorem AWp.cnd {x : Operand} {c d : Code} (b : Bool) (ht : b = true → AWp P G c Q s) (hf : b = false → AWp P G d Q s) (hx : aval G s x = .rv (.v (.bool b)) := by as_aux_lemma => kernel_rfl) : AWp P G (.cond x c d) Q s := AWp.cond hx ht hf
theorem AWp.cndT {x : Operand} {c d : Code} (ht : AWp P G c Q s) (hx : aval G s x = .rv (.v (.bool true)) := by as_aux_lemma => kernel_rfl) : AWp P G (.cond x c d) Q s := AWp.cond_t hx ht
theorem AWp.cndF {x : Operand} {c d : Code} (hf : AWp P G d Q s) (hx : aval G s x = .rv (.v (.bool false)) := by as_aux_lemma => kernel_rfl) : AWp P G (.cond x c d) Q s := AWp.cond_f hx hf
/-- What a state says less. -/
theorem leZ {n : Nat} {l : List (Nat × AV)} {h : Heap} {m : Nat} (he : vw l h s = ⟨l, h, n, 0⟩ := by as_aux_lemma => kernel_rfl) (hm : Nat.ble s.next m = true := by as_aux_lemma => kernel_rfl) : Le s (Z n l h m) := le_vw he (Nat.le_of_ble_eq_true hm)
def valsL : List (Nat × AV) → List AV
  | [] => []
  | (_, v) :: r => v :: valsL r
theorem valsL_mem : ∀ {l : List (Nat × AV)} {k : Nat} {v : AV}, (k, v) ∈ l → v ∈ valsL l
  | (j, u) :: r, k, v, h => by
    rcases List.mem_cons.1 h with h | h
    · cases h; simp [valsL]
    · simp [valsL, valsL_mem h]
theorem belowL_mem {n : Nat} {cs : List AV} (h : belowL n cs = true) {x : AV} (hx : x ∈ cs) : belowA n x = true := by
  obtain ⟨j, hj, rfl⟩ := List.mem_iff_getElem.1 hx
  exact belowL_at h (List.getElem?_eq_getElem hj)
/-- The same, and names are given back. -/
theorem leG {n : Nat} {l : List (Nat × AV)} {h : Heap} {m : Nat} (he : vw l h s = ⟨l, h, n, 0⟩ := by as_aux_lemma => kernel_rfl) (h1 : belowL m (valsL l) = true := by as_aux_lemma => kernel_rfl) (h2 : belowH m h = true := by as_aux_lemma => kernel_rfl) : Le s (Z n l h m) := by
  by_cases hm : s.next ≤ m
  · exact le_vw he hm
  · refine (le_vw he (Nat.le_refl _)).trans ?_
    intro E G a w ⟨β, ro, hr⟩
    refine ⟨β, ro, hr.defers, hr.size, fun i x hx => ?_, ⟨fun id o hg => ?_, hr.heap.inj, hr.heap.disj, hr.heap.lt⟩, hr.glob, ?_, hr.base⟩
    · have hx' : (mkSl 0 n l)[i]? = some x := hx
      rcases mkSl_at hx' with rfl | hx2
      · exact .top _
      · exact (hr.slot i x hx).lower (belowL_mem h1 (valsL_mem hx2))
    · have ho := hr.heap.objs id o hg
      obtain ⟨_, hbx⟩ := belowH_at h2 hg
      cases ho with
      | box t cs b arr e1 e2 e3 e4 => exact .box t cs b arr e1 e2 e3 fun j x hj => (e4 j x hj).lower (belowL_at (hbx t cs rfl) hj)
      | row t n es xs e1 e2 e3 => exact .row t n es xs e1 e2 e3
      | fro t n es e1 => exact .fro t n es e1
      | oth Φ b o e1 e2 e3 => exact .oth Φ b o e1 e2 e3
    · have t := hr.trans
      exact ⟨t.os, t.tape, t.output, t.size, t.frame, t.roSub, t.roKeep, t.ownSub, t.old, fun id o hg => (belowH_at h2 hg).1, Nat.le_trans hr.base (Nat.zero_le _)⟩

/-- The lengths that hints have asked for are lengths. -/
def lensOk : List (Hint P G) → Prop
  | [] => True
  | h :: hs => match h with
    | .len _ l _ => l.length ≤ 9223372036854775807 ∧ lensOk hs
    | .lenR _ l _ _ => l.length ≤ 9223372036854775807 ∧ lensOk hs
    | _ => lensOk hs
theorem AOps.lenRow {ops : Array Oper} {α : Type} {C : α → List RV} {l : List α} {r : List Oper} {id n : Nat} {t : TypeId} (hid : hget s.heap id = some (.row false t n (l.map C))) (k : l.length ≤ 9223372036854775807 → AOps P G ops Q r s) : AOps P G ops Q r s := by
  intro E a w hr
  refine k ?_ E a w hr
  obtain ⟨β, ro, h⟩ := hr
  have hO := h.heap.objs id _ hid
  cases hO with
  | row _ _ _ xs hrow _ _ =>
    rw [List.length_map] at hrow
    rcases hrow.2 with ⟨_, h0⟩ | ⟨g, cap, cur, _, _, _, h1, h2, _⟩
    · omega
    · simp only [maxLen] at h2
      omega
theorem AOps.hintsL {ops : Array Oper} : ∀ (hs : List (Hint P G)) {l : List Oper} {s s2 : St} {as : List AV}, xops P G ops hs l s = some (as, s2) → as = hexps hs → (lensOk hs → AOps P G ops Q (l.drop (hcount hs)) s2) → AOps P G ops Q l s
  | [], l, s, s2, as, h, _, k => by
    simp only [xops, Option.some.injEq, Prod.mk.injEq] at h
    obtain ⟨_, rfl⟩ := h
    simpa [hcount] using k trivial
  | h :: hs, l, s, s2, as, hx, ha, k => by
    have hk : hkind h = 0 ∨ hkind h = 1 ∨ hkind h = 2 ∨ hkind h = 4 ∨ hkind h = 5 ∨ hkind h = 3 := by cases h <;> simp [hkind]
    rcases hk with hk | hk | hk | hk | hk | hk
    · cases h with
      | run n =>
        simp only [xops] at hx
        simp only [hcount] at k
        split at hx
        · rename_i s1 h1
          exact AOps.run n h1 (AOps.hintsL hs hx ha (by rw [List.drop_drop]; exact k))
        · cases hx
      | _ => simp [hkind] at hk
    · cases h with
      | nils i m => exact AOps.le (Le.nils i m rfl) (AOps.hintsL hs hx ha k)
      | _ => simp [hkind] at hk
    · cases h with
      | frz i => exact AOps.le (Le.frz s i) (AOps.hintsL hs hx ha k)
      | _ => simp [hkind] at hk
    · cases h with
      | slot i u v huv =>
        simp only [xops] at hx
        simp only [hcount] at k
        split at hx
        · rename_i a h1
          split at hx
          · rename_i as' s3 h2
            simp only [Option.some.injEq, Prod.mk.injEq] at hx
            obtain ⟨rfl, rfl⟩ := hx
            simp only [hexps, hexp, List.cons.injEq] at ha
            have hset : ({ s with slots := s.slots.set i v } : St) = s := by
              rw [← huv, ← ha.1]
              have : s.slots.set i a = s.slots := by
                apply List.ext_getElem?
                intro j
                rw [List.getElem?_set]
                split
                · rename_i e
                  subst e
                  rw [h1]
                  have := (List.getElem?_eq_some_iff.1 h1).1
                  simp [this]
                · rfl
              rw [this]
            rw [hset] at h2
            exact AOps.hintsL hs h2 ha.2 k
          · cases hx
        · cases hx
      | _ => simp [hkind] at hk
    · cases h with
      | nrow i e n =>
        simp only [xops] at hx
        simp only [hcount] at k
        split at hx
        · rename_i h1 h2
          exact AOps.le (Le.nilRow i e n h1 (Nat.le_of_ble_eq_true h2) rfl) (AOps.hintsL hs hx ha k)
        · cases hx
      | _ => simp [hkind] at hk
    · obtain ⟨e1, e2, e3⟩ := xops_one (ops := ops) (hs := hs) (l := l) (s := s) hk
      rw [e1] at hx
      rw [e2] at ha
      rw [e3] at k
      split at hx
      · rename_i o r
        split at hx
        · rename_i hg
          split at hx
          · rename_i a s1 h1
            split at hx
            · rename_i as' s3 h2
              simp only [Option.some.injEq, Prod.mk.injEq] at hx
              obtain ⟨rfl, rfl⟩ := hx
              simp only [List.cons.injEq] at ha
              cases h with
              | len C l' n =>
                have ho : ∃ x, aval G s x = .rv (.sl n (l'.map C)) := by
                  have h3 := ha.1
                  unfold hstep at h1
                  simp only at h1
                  split at h1
                  · split at h1
                    · split at h1
                      · simp only [Option.some.injEq, Prod.mk.injEq] at h1
                        rw [← h1.1] at h3
                        exact ⟨_, h3⟩
                      · cases h1
                    · cases h1
                  · cases h1
                obtain ⟨x, hx⟩ := ho
                exact AOps.lenLeM hx fun hle =>
                  AOps.step hg (hstep_sound h1 ha.1) (AOps.hintsL hs h2 ha.2 fun hl => by rw [Nat.add_comm] at k; exact k ⟨hle, hl⟩)
              | lenR C l' id n =>
                have ho : ∃ t, hget s.heap id = some (.row false t n (l'.map C)) := by
                  have h3 := ha.1
                  unfold hstep at h1
                  simp only at h1
                  split at h1
                  · split at h1
                    · split at h1
                      · rename_i hrow
                        simp only [Option.some.injEq, Prod.mk.injEq] at h1
                        rw [← h1.1] at h3
                        obtain ⟨_, h4⟩ := tuple2 h3
                        simp only [AV.rv.injEq, RV.sl.injEq, true_and] at h4
                        exact ⟨_, h4 ▸ rowOf_spec hrow⟩
                      · cases h1
                    · cases h1
                  · cases h1
                obtain ⟨t, ht⟩ := ho
                exact AOps.lenRow ht fun hle =>
                  AOps.step hg (hstep_sound h1 ha.1) (AOps.hintsL hs h2 ha.2 fun hl => by rw [Nat.add_comm] at k; exact k ⟨hle, hl⟩)
              | _ => exact AOps.step hg (hstep_sound h1 ha.1) (AOps.hintsL hs h2 ha.2 fun hl => by rw [Nat.add_comm] at k; exact k hl)
            · cases hx
          · cases hx
        · cases hx
      · cases hx
theorem AOps.hzl {ops : Array Oper} {L : List Oper} (hs : List (Hint P G)) (n : Nat) (l : List (Nat × AV)) (h : Heap) (m : Nat) (k : lensOk hs → AOps P G ops Q (L.drop (hcount hs)) (Z n l h m))
    (hx : (xops P G ops hs L s).map (vwx l h) = some (hexps hs, ⟨l, h, n, 0⟩, m) := by as_aux_lemma => kernel_rfl) : AOps P G ops Q L s := by
  cases h1 : xops P G ops hs L s with
  | none => rw [h1] at hx; cases hx
  | some x =>
    obtain ⟨as, s1⟩ := x
    rw [h1] at hx
    simp only [Option.map_some, vwx, Option.some.injEq, Prod.mk.injEq] at hx
    exact AOps.hintsL hs h1 hx.1 fun hl => AOps.le (le_vw hx.2.1 (Nat.le_of_eq hx.2.2)) (k hl)
theorem AOps.hel {ops : Array Oper} {L : List Oper} (hs : List (Hint P G)) (n : Nat) (l : List (Nat × AV)) (h : Heap) (m : Nat) (k : lensOk hs → Q .normal (Z n l h m))
    (hx : (xops P G ops hs L s).map (vwx l h) = some (hexps hs, ⟨l, h, n, 0⟩, m) := by as_aux_lemma => kernel_rfl) (hl : Nat.ble L.length (hcount hs) = true := by as_aux_lemma => kernel_rfl) : AOps P G ops Q L s :=
  AOps.hzl hs n l h m (fun h1 => by rw [List.drop_of_length_le (Nat.le_of_ble_eq_true hl)]; exact AOps.nil (k h1)) hx
theorem AWp.hzl {id : Nat} {L : List Oper} {c : Code} (hs : List (Hint P G)) (n : Nat) (l : List (Nat × AV)) (h : Heap) (m : Nat) (k : lensOk hs → AWp P G c Q (Z n l h m))
    (hx : (xops P G L.toArray hs L s).map (vwx l h) = some (hexps hs, ⟨l, h, n, 0⟩, m) := by as_aux_lemma => kernel_rfl) (hl : Nat.ble L.length (hcount hs) = true := by as_aux_lemma => kernel_rfl) : AWp P G (.seq (.region id L.toArray false) c) Q s :=
  .seq (.region (AOps.hel hs n l h m k hx hl))
theorem AWp.hel {id : Nat} {L : List Oper} (hs : List (Hint P G)) (n : Nat) (l : List (Nat × AV)) (h : Heap) (m : Nat) (k : lensOk hs → Q .normal (Z n l h m))
    (hx : (xops P G L.toArray hs L s).map (vwx l h) = some (hexps hs, ⟨l, h, n, 0⟩, m) := by as_aux_lemma => kernel_rfl) (hl : Nat.ble L.length (hcount hs) = true := by as_aux_lemma => kernel_rfl) : AWp P G (.region id L.toArray false) Q s :=
  .region (AOps.hel hs n l h m k hx hl)
/-- A region that draws its order. -/
def putAll : List AV → List Oper → List AV → List AV
  | T, o :: l, v :: vs => putAll (putL T o.dst v) l vs
  | T, _, _ => T
theorem AWp.dz {id : Nat} {L : List Oper} {c : Code} (vals : List AV) (n : Nat) (l : List (Nat × AV)) (h : Heap) (m : Nat) (hds : DSteps P G L.toArray s s.slots L vals (putAll s.slots L vals)) (k : AWp P G c Q (Z n l h m))
    (hP : P.follows .mixedOrders = true := by as_aux_lemma => kernel_rfl) (hok : drawOk L.toArray = true := by as_aux_lemma => kernel_rfl) (he : vw l h { s with slots := putAll s.slots L vals } = ⟨l, h, n, 0⟩ := by as_aux_lemma => kernel_rfl) (hm : Nat.ble s.next m = true := by as_aux_lemma => kernel_rfl) : AWp P G (.seq (.region id L.toArray true) c) Q s :=
  .seq (AWp.drawn vals _ hP hok hds (AWp.le (le_vw he (Nat.le_of_ble_eq_true hm)) k))
theorem DSteps.nl {ops : Array Oper} {s0 : St} {T T' : List AV} (h : T = T' := by as_aux_lemma => kernel_rfl) : DSteps P G ops s0 T [] [] T' := h ▸ DSteps.nil T

theorem mkSz {m c bytes : Nat} (h : m ≤ c ∧ c ≤ 1000000 ∧ bytes ≤ 1000) : m ≤ c ∧ c ≤ maxLen ∧ bytes * c ≤ 281474976710656 := by
  refine ⟨h.1, by simp only [maxLen]; omega, ?_⟩
  have := Nat.mul_le_mul h.2.2 h.2.1
  omega
theorem leafR {fn : Func} {r R : AV} (hr : r = R) (h : aresult P fn s = some r := by as_aux_lemma => kernel_rfl) : RetQ P fn (fun r τ => r = R ∧ τ = []) .ret s := ⟨.inr rfl, r, [], h, hget_nil, hr, rfl⟩
theorem AOps.cv {ops : Array Oper} {L : List Oper} (n : Nat) (l : List (Nat × AV)) (h : Heap) (m : Nat) (k : AOps P G ops Q L (Z n l h m)) (he : vw l h s = ⟨l, h, n, 0⟩ := by as_aux_lemma => kernel_rfl) (hm : Nat.ble s.next m = true := by as_aux_lemma => kernel_rfl) : AOps P G ops Q L s := AOps.le (leZ he hm) k
theorem AWp.cv {c : Code} (n : Nat) (l : List (Nat × AV)) (h : Heap) (m : Nat) (k : AWp P G c Q (Z n l h m)) (he : vw l h s = ⟨l, h, n, 0⟩ := by as_aux_lemma => kernel_rfl) (hm : Nat.ble s.next m = true := by as_aux_lemma => kernel_rfl) : AWp P G c Q s := AWp.le (leZ he hm) k
end

theorem DStep.va {P : Program} {G : Glob} {ops : Array Oper} {s0 : St} {T : List AV} {o : Oper} {v : AV} (hg : gwant ops ⟨maskF (o.looksAt ops) T, s0.heap, s0.next, s0.base⟩ o = some true := by as_aux_lemma => kernel_rfl)
    (hv : vstep P G o ⟨maskF (o.looksAt ops) T, s0.heap, s0.next, s0.base⟩ = some v := by as_aux_lemma => kernel_rfl) : DStep P G ops s0 T o v := DStep.val hg hv
/-- A call's body begins. -/
theorem ACalls.body {P : Program} {G : Glob} {f : FuncId} {fn : Func} {c : Code} {args : List AV} {Q : AV → Heap → Prop} (hf : P.funcs[f]? = some fn) (hb : fn.body = some c) (n : Nat) (l : List (Nat × AV))
    (h : AWp P G c (RetQ P fn Q) (Z n l [] 0)) (he : vw l [] ⟨args ++ List.replicate (fn.ntmps - args.length) .top, [], 0, 0⟩ = ⟨l, [], n, 0⟩ := by as_aux_lemma => kernel_rfl) : ACalls P G f args [] 0 Q :=
  ACalls.of_body hf hb rfl (AWp.le (leZ he rfl) h)
end Go.Av
