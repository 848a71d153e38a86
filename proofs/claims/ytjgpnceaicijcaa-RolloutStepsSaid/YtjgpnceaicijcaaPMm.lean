/- The AV calculus, part M: short names for states, and small laws for printed proofs. Conditions: none. -/
import Derived.Test.YtjgpnceaicijcaaPMl
namespace Go.Av
open Go

abbrev vi (n : Int) : AV := .rv (.v (.int .i64 n))
abbrev vb (b : Bool) : AV := .rv (.v (.bool b))
abbrev vs (s : ByteArray) : AV := .rv (.v (.string s))
abbrev avs (l : List RV) : List AV := l.map .rv
abbrev strC (s : ByteArray) : List RV := [.v (.string s)]
abbrev intC (n : Int) : List RV := [.v (.int .i64 n)]
abbrev boolC (b : Bool) : List RV := [.v (.bool b)]

def mkSl : Nat → Nat → List (Nat × AV) → List AV
  | _, 0, _ => []
  | i, k + 1, [] => .top :: mkSl (i + 1) k []
  | i, k + 1, (j, v) :: r => if i = j then v :: mkSl (i + 1) k r else .top :: mkSl (i + 1) k ((j, v) :: r)
theorem aelem_map {α : Type} {σ : Heap} {n k : Nat} {l : List α} {f : α → List RV} {e : α} (h : l[k]? = some e) : aelem σ n k (.rv (.sl n (l.map f))) = some (.rv (.ptr (f e))) := by
  simp [aelem, h]
theorem alen_map {α : Type} {σ : Heap} {n : Nat} {l : List α} {f : α → List RV} : alen σ (.rv (.sl n (l.map f))) = some l.length := by
  simp [alen]

theorem wrap64_of (n : Int) (h1 : -9223372036854775808 ≤ n) (h2 : n ≤ 9223372036854775807) : IntKind.i64.wrap n = n := by
  rw [IntKind.wrap_i64]; omega
theorem hget_nil {σ : Heap} : ∀ (id : Nat) (o : AObj), hget [] id = some o → hget σ id = some o := by
  intro id o h; cases h
theorem hget_one {σ : Heap} {k : Nat} {p : AObj} (hk : hget σ k = some p) : ∀ (id : Nat) (o : AObj), hget [(k, p)] id = some o → hget σ id = some o := by
  intro id o h
  simp only [hget] at h
  split at h
  · rename_i he
    subst he
    rw [hk]
    exact h
  · cases h

theorem AOps.split {P : Program} {G : Glob} {ops : Array Oper} {Q : Exit → St → Prop} {l : List Oper} {s : St} (b : Bool) (ht : b = true → AOps P G ops Q l s) (hf : b = false → AOps P G ops Q l s) : AOps P G ops Q l s := by
  cases b
  · exact hf rfl
  · exact ht rfl
theorem AWp.split {P : Program} {G : Glob} {Q : Exit → St → Prop} {c : Code} {s : St} (b : Bool) (ht : b = true → AWp P G c Q s) (hf : b = false → AWp P G c Q s) : AWp P G c Q s := by
  cases b
  · exact hf rfl
  · exact ht rfl

/-- Row id is frozen: from now on it is immutable, and a slot that held it holds an immutable slice. -/
def viewH (σ : Heap) : Heap → Heap
  | [] => []
  | (k, .box t cs) :: r => (k, .box t (viewL σ cs)) :: viewH σ r
  | (k, .row z t n es) :: r => (k, .row z t n es) :: viewH σ r
  | (k, .oth Φ) :: r => (k, .oth Φ) :: viewH σ r

def viewO (σ : Heap) : AObj → AObj
  | .box t cs => .box t (viewL σ cs)
  | .row z t n es => .row z t n es
  | .oth Φ => .oth Φ

theorem hget_viewH (σ : Heap) : ∀ (h : Heap) (k : Nat), hget (viewH σ h) k = (hget h k).map (viewO σ)
  | [], k => by simp [viewH, hget]
  | (j, .box t cs) :: r, k => by
    by_cases hj : j = k
    · simp [viewH, hget, hj, viewO]
    · simp [viewH, hget, hj, hget_viewH σ r k]
  | (j, .row z t n es) :: r, k => by
    by_cases hj : j = k
    · simp [viewH, hget, hj, viewO]
    · simp [viewH, hget, hj, hget_viewH σ r k]
  | (j, .oth Φ) :: r, k => by
    by_cases hj : j = k
    · simp [viewH, hget, hj, viewO]
    · simp [viewH, hget, hj, hget_viewH σ r k]

theorem RowIs.asRV {w : World} {ro : Nat → Prop} {t : TypeId} {n : Nat} {v : Value} {es : List (List RV)} {xs : List Value} (h : RowIs w t n v es.length xs) (hn : ∀ e ∈ es, e.length = n) (hc : ∀ j x, es.flatten[j]? = some x → RRel w ro x (xs.getD j undef))
    (hro : ∀ b, blk v = some b → ro b) : RRel w ro (.sl n es) v := by
  rcases h.2 with ⟨⟨b, hv⟩, hz⟩ | ⟨g, cap, cur, hv, hp, hg, hle, hcm, hcs, htake⟩
  · subst hv
    have : es = [] := List.eq_nil_of_length_eq_zero hz
    subst this
    exact .sl n [] b 0 (fun _ => undef) (by simp) (Nat.zero_le _) (by simp) (by simp) (by simp)
  · subst hv
    refine .sl n es _ cap (fun j => xs.getD j undef) hle hcm hn (fun _ => ⟨⟨g, 0, none⟩, rfl, fun j hj => ⟨hro g (by simp [blk, Nat.ne_of_gt hp]), ?_⟩⟩) hc
    rw [addLit, Nat.zero_add, cell_of_row w g j cur t (0, 0) hg]
    have hx : xs[j]? = cur[j]? := by rw [← htake, List.getElem?_take, if_pos hj]; simp
    have hxl : j < xs.length := by rw [h.1]; exact hj
    rw [← hx]
    simp [List.getD, List.getElem?_eq_getElem hxl]

def frz (s : St) (id : Nat) : St :=
  match hget s.heap id with
  | some (.row false t n es) => ⟨viewL [(id, .row true t n es)] s.slots, viewH [(id, .row true t n es)] (hdel s.heap id), s.next, s.base⟩
  | _ => s

theorem Le.frz (s : St) (id : Nat) : Le s (frz s id) := by
  unfold Go.Av.frz
  split
  · rename_i t n es hid
    intro E G a w ⟨β, ro, h⟩
    have hO := h.heap.objs id _ hid
    cases hO with
    | row _ _ _ xs hrow hn hc =>
      -- the immutable blocks, and this one
      have hrv : RRel w (fun b => ro b ∨ blk (β id) = some b) (.sl n es) (β id) := hrow.asRV hn (fun j x hj => (hc j x hj).keep (fun _ _ => rfl) fun _ h => .inl h) fun b hb => .inr hb
      have hsub : ∀ k o, hget (hdel s.heap id) k = some o → hget s.heap k = some o ∧ k ≠ id := by
        intro k o hk
        rw [hget_hdel] at hk
        split at hk
        · cases hk
        · rename_i hne
          exact ⟨hk, fun e => hne e.symm⟩
      have view : ∀ x c, ARel w ro s.heap β s.next x c → ARel w (fun b => ro b ∨ blk (β id) = some b) (viewH [(id, .row true t n es)] (hdel s.heap id)) β s.next (viewA [(id, .row true t n es)] x) c := by
        intro x c hx
        induction hx with
        | rv x c hx => exact .rv x c (hx.keep (fun _ _ => rfl) fun _ h => .inl h)
        | agg cs c h1 _ ih =>
          refine .agg _ c (by rw [viewL_length]; exact h1) fun j x hj => ?_
          obtain ⟨y, hy, rfl⟩ := viewL_at _ hj
          exact ih j y hy
        | tuple cs c h1 _ ih =>
          refine .tuple _ c (by rw [viewL_length]; exact h1) fun j x hj => ?_
          obtain ⟨y, hy, rfl⟩ := viewL_at _ hj
          exact ih j y hy
        | ptr k off c hl hp =>
          refine .ptr k off c hl fun t' cs' hg => ?_
          rw [hget_viewH] at hg
          cases hk : hget (hdel s.heap id) k with
          | none => simp [hk] at hg
          | some p =>
            cases p with
            | box t2 cs2 => exact hp t2 cs2 (hsub k _ hk).1
            | row => simp [hk, viewO] at hg
            | oth => simp [hk, viewO] at hg
        | eptr k i off c hl hp =>
          refine .eptr k i off c hl fun z' t' n' es' hg => ?_
          rw [hget_viewH] at hg
          cases hk : hget (hdel s.heap id) k with
          | none => simp [hk] at hg
          | some p =>
            cases p with
            | box t2 cs2 => simp [hk, viewO] at hg
            | oth => simp [hk, viewO] at hg
            | row z2 t2 n2 es2 =>
              simp only [hk, viewO, Option.map_some, Option.some.injEq, AObj.row.injEq] at hg
              obtain ⟨rfl, rfl, rfl, rfl⟩ := hg
              exact hp _ _ _ _ (hsub k _ hk).1
        | sl k c hl hp =>
          simp only [viewA, hget]
          by_cases hk : id = k
          · subst hk
            simp only [if_true]
            rw [hp _ _ _ _ hid]
            exact .rv _ _ hrv
          · simp only [if_neg hk]
            refine .sl k c hl fun z' t' n' es' hg => ?_
            rw [hget_viewH] at hg
            cases hk' : hget (hdel s.heap id) k with
            | none => simp [hk'] at hg
            | some p =>
              cases p with
              | box t2 cs2 => simp [hk', viewO] at hg
              | oth => simp [hk', viewO] at hg
              | row z2 t2 n2 es2 => exact hp _ _ _ _ (hsub k _ hk').1
        | fn f p q c d h1 h2 _ _ ih1 ih2 =>
          refine .fn f _ _ c d (by rw [viewL_length]; exact h1) (by rw [viewL_length]; exact h2) (fun j x hj => ?_) (fun j x hj => ?_)
          · obtain ⟨y, hy, rfl⟩ := viewL_at _ hj
            exact ih1 j y hy
          · obtain ⟨y, hy, rfl⟩ := viewL_at _ hj
            exact ih2 j y hy
        | ref k c hl hp =>
          refine .ref k c hl fun Φ hg => ?_
          rw [hget_viewH] at hg
          cases hk : hget (hdel s.heap id) k with
          | none => simp [hk] at hg
          | some p =>
            cases p with
            | box => simp [hk, viewO] at hg
            | row => simp [hk, viewO] at hg
            | oth Φ' => exact hp Φ' (hsub k _ hk).1
        | top c => exact .top c
      have back : ∀ k o, hget (viewH [(id, .row true t n es)] (hdel s.heap id)) k = some o → ∃ p, hget s.heap k = some p ∧ k ≠ id ∧ p.live = o.live ∧ o = viewO [(id, .row true t n es)] p := by
        intro k o hg
        rw [hget_viewH] at hg
        cases hk : hget (hdel s.heap id) k with
        | none => simp [hk] at hg
        | some p =>
          obtain ⟨h1, h2⟩ := hsub k p hk
          refine ⟨p, h1, h2, ?_, ?_⟩
          · simp [hk] at hg
            subst hg
            cases p <;> rfl
          · simp [hk] at hg
            exact hg.symm
      refine ⟨β, fun b => ro b ∨ blk (β id) = some b, h.defers, by simpa [viewL_length] using h.size, fun i x hx => ?_, ⟨fun k o hg => ?_, fun k k' o o' b hg hg' hl hl' hb hb' => ?_, fun b hb => ?_, fun b hb => ?_⟩,
        h.glob.keep (fun _ _ => rfl) fun _ h => .inl h, ?_, h.base⟩
      · obtain ⟨y, hy, rfl⟩ := viewL_at _ hx
        exact view _ _ (h.slot i y hy)
      · obtain ⟨p, h1, h2, h3, rfl⟩ := back k o hg
        have ho := h.heap.objs k p h1
        cases ho with
        | box t' cs' b arr e1 e2 e3 e4 =>
          refine .box t' _ b arr e1 e2 (by rw [viewL_length]; exact e3) fun j x hj => ?_
          obtain ⟨y, hy, rfl⟩ := viewL_at _ hj
          exact view _ _ (e4 j y hy)
        | row t' n' es' xs' e1 e2 e3 => exact .row t' n' es' xs' e1 e2 fun j x hj => (e3 j x hj).keep (fun _ _ => rfl) fun _ h => .inl h
        | fro t' n' es' e1 => exact .fro t' n' es' (e1.keep (fun _ _ => rfl) fun _ h => .inl h)
        | oth Φ b o e1 e2 e3 => exact .oth Φ b o e1 e2 (Φ.mono _ _ _ _ (fun x c h => h.keep (fun _ _ => rfl) fun _ h => .inl h) e3)
      · obtain ⟨p, h1, _, h3, _⟩ := back k o hg
        obtain ⟨p', h1', _, h3', _⟩ := back k' o' hg'
        exact h.heap.inj k k' p p' b h1 h1' (h3.trans hl) (h3'.trans hl') hb hb'
      · rintro ⟨k, o, hg, hl, hbk⟩
        obtain ⟨p, h1, h2, h3, _⟩ := back k o hg
        rcases hb with hb | hb
        · exact h.heap.disj b hb ⟨k, p, h1, h3.trans hl, hbk⟩
        · exact h2 (h.heap.inj k id p _ b h1 hid (h3.trans hl) rfl hbk hb)
      · rcases hb with hb | hb
        · exact h.heap.lt b hb
        · exact (hrow.blkLt hb).1
      · have t' := h.trans
        refine ⟨t'.os, t'.tape, t'.output, t'.size, t'.frame, fun b hb => ?_, fun b hb => .inl (t'.roKeep b hb), ?_, fun k hk o hg => ?_, fun k o hg => ?_, t'.le⟩
        · rcases hb with hb | hb
          · exact t'.roSub b hb
          · rcases t'.ownSub b ⟨id, _, hid, rfl, hb⟩ with hc | hc
            · exact .inr (.inl hc)
            · exact .inr (.inr hc)
        · rintro b ⟨k, o, hg, hl, hbk⟩
          obtain ⟨p, h1, _, h3, _⟩ := back k o hg
          exact t'.ownSub b ⟨k, p, h1, h3.trans hl, hbk⟩
        · obtain ⟨p, h1, _, _, _⟩ := back k o hg
          exact t'.old k hk p h1
        · obtain ⟨p, h1, _, _, _⟩ := back k o hg
          exact t'.new k p h1
  · exact Le.refl s

section
variable {P : Program} {G : Glob} {Q : Exit → St → Prop} {s s' : St}
/-- Where several ways meet: each leads to a state that may be taken for s1. -/
def JoinQ (s1 : St) (Q : Exit → St → Prop) : Exit → St → Prop
  | .normal, s => Le s s1
  | e, s => Q e s
theorem AWp.join {x y : Code} (s1 : St) (hx : AWp P G x (JoinQ s1 Q) s) (k : AWp P G y Q s1) : AWp P G (.seq x y) Q s := fun E a w hr => by
  refine wp_seq (wp_mono (hx E a w hr) fun e a' w' hq => ?_)
  obtain ⟨s', h1, h2⟩ := hq
  cases e with
  | normal => exact k E a' w' (h1 E G a' w' h2)
  | _ => exact ⟨s', h1, h2⟩
/-- The same, with something that is known where the ways meet. -/
def JoinP (s1 : St) (R : Prop) (Q : Exit → St → Prop) : Exit → St → Prop
  | .normal, s => Le s s1 ∧ R
  | e, s => Q e s
theorem AWp.joinP {x y : Code} (s1 : St) (R : Prop) (hx : AWp P G x (JoinP s1 R Q) s) (k : R → AWp P G y Q s1) : AWp P G (.seq x y) Q s := fun E a w hr => by
  refine wp_seq (wp_mono (hx E a w hr) fun e a' w' hq => ?_)
  obtain ⟨s', h1, h2⟩ := hq
  cases e with
  | normal => exact k h1.2 E a' w' (h1.1 E G a' w' h2)
  | _ => exact ⟨s', h1, h2⟩
end
end Go.Av
