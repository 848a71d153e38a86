/- The AV calculus, part K: append, make, cuts of slices and strings, small builtins, conversions. Conditions: none. -/
import Derived.Test.YtmkpmgfieagphaaGreatDoorPSMj
import Derived.Maps.AppendAt
import Derived.Orders
import Derived.Laws.RangeString
import Derived.Laws.RangeAny
namespace Go.Av
open Go

def aelems (σ : Heap) (n : Nat) : AV → Option (List (List RV))
 | .rv (.sl m es) => if m = n then some es else none
 | .rv (.v (.slice none 0 0)) => some []
 | .rv (.li i l) => if nT i = n then some (l.map (cT i)) else none
 | .sl id => match hget σ id with
  | some (.row _ _ m es) => if m = n then some es else none
  | _ => none
 | _ => none

section
variable {P : Program} {G : Glob} {o : Oper} {s : St}

theorem RRel.elems {w : World} {ro : Nat → Prop} {n : Nat} {es : List (List RV)} {c : Value} (h : RRel w ro (.sl n es) c) :
    ∃ b cap, c = .slice b es.length cap ∧ (∀ e ∈ es, e.length = n) ∧ (b = none → es = []) ∧ ∃ f : Nat → Value, (∀ a, b = some a → ∀ j, j < es.length * n → w.cell? (a.add j) = some (f j)) ∧ ∀ j x, es.flatten[j]? = some x → RRel w ro x (f j) := by
  cases h with
  | sl _ _ b cap f h1 h2 h3 h4 h5 =>
    refine ⟨b, cap, rfl, h3, fun hb => ?_, f, fun a ha j hj => ?_, h5⟩
    · rcases Nat.eq_zero_or_pos es.length with h | h
      · exact List.eq_nil_of_length_eq_zero h
      · obtain ⟨a, ha, _⟩ := h4 h
        rw [hb] at ha
        cases ha
    · have hp : 0 < es.length := by
        rcases Nat.eq_zero_or_pos es.length with h | h
        · rw [h] at hj; simp at hj
        · exact h
      obtain ⟨a', ha', hc⟩ := h4 hp
      rw [ha] at ha'
      simp only [Option.some.injEq] at ha'
      subst ha'
      exact (hc j hj).2

theorem aelems_rel {w : World} {ro : Nat → Prop} {σ : Heap} {β : Nat → Value} {N : Nat} (hh : HRel w ro σ β N) {x : AV} {c : Value} (h : ARel w ro σ β N x c) {n : Nat} {es : List (List RV)} (he : aelems σ n x = some es) :
    ∃ b cap, c = .slice b es.length cap ∧ (∀ e ∈ es, e.length = n) ∧ (b = none → es = []) ∧ ∃ f : Nat → Value, (∀ a, b = some a → ∀ j, j < es.length * n → w.cell? (a.add j) = some (f j)) ∧ ∀ j x, es.flatten[j]? = some x → RRel w ro x (f j) := by
  cases h with
  | rv x c hx =>
    cases x with
    | v y =>
      cases hx
      cases c with
      | slice a l cp =>
        cases a with
        | none =>
          cases l with
          | zero =>
            cases cp with
            | zero =>
              simp [aelems] at he
              subst he
              exact ⟨none, 0, rfl, by simp, fun _ => rfl, fun _ => undef, by simp, by simp⟩
            | succ => simp [aelems] at he
          | succ => simp [aelems] at he
        | some => simp [aelems] at he
      | _ => simp [aelems] at he
    | ptr => simp [aelems] at he
    | mp => simp [aelems] at he
    | li i l =>
      simp only [aelems] at he
      split at he
      · rename_i hm
        subst hm
        simp only [Option.some.injEq] at he
        subst he
        cases hx with
        | li _ _ _ hx => exact hx.elems
      · cases he
    | sl m es' =>
      simp only [aelems] at he
      split at he
      · rename_i hm
        subst hm
        simp only [Option.some.injEq] at he
        subst he
        exact hx.elems
      · cases he
  | sl id c hl hp =>
    simp only [aelems] at he
    split at he
    · rename_i z t m es' hg
      split at he
      · rename_i hm
        subst hm
        simp only [Option.some.injEq] at he
        subst he
        rw [hp z t _ _ hg]
        have hO := hh.objs id _ hg
        cases hO with
        | row _ _ _ xs h1 h2 h3 =>
          rcases h1.2 with ⟨⟨b, hv, _⟩, hz⟩ | ⟨g, cap, cur, hv, hc, hgg, hle, hcm, hcs, htake⟩
          · have : es' = [] := List.eq_nil_of_length_eq_zero hz
            subst this
            rw [hv]
            exact ⟨b, 0, rfl, by simp, fun _ => rfl, fun _ => undef, by simp, by simp⟩
          · rw [hv]
            refine ⟨_, _, rfl, h2, by simp, fun j => xs.getD j undef, fun a ha j hj => ?_, h3⟩
            simp only [Option.some.injEq] at ha
            subst ha
            rw [addLit, Nat.zero_add, cell_of_row w g j cur t (0, 0) hgg]
            have hx : xs[j]? = cur[j]? := by rw [← htake, List.getElem?_take, if_pos hj]; simp
            have hxl : j < xs.length := by rw [h1.1]; exact hj
            rw [← hx]
            simp [List.getD, List.getElem?_eq_getElem hxl]
        | fro _ _ _ h1 => exact h1.elems
      · cases he
    · cases he
  | _ => simp [aelems] at he

theorem run_append_row {w : World} (t ty e : TypeId) {i : TypeInfo} {z : Value} {n bytes : Nat} (ht : P.underlying t = some (.slice e)) (hi : P.info? e = some i) (hz : i.zero = some z) (hsize : i.size = n) (hby : i.bytes = bytes) (hzs : z.cells.size = n) (hn : 0 < n)
    {v : Value} {len : Nat} {xs : List Value} (hrow : RowIs w e n v len xs) {b : Option Addr} {m cap : Nat} {news : List Value} (hl : news.length = m * n) (hb : b = none → m = 0) (hnews : ∀ a, b = some a → ∀ j u, news[j]? = some u → w.cell? (a.add j) = some u)
    (h1 : ∀ u ∈ news, u.oneCell' = true) (h63 : len + m ≤ maxLen) (hbytes : (len + m) * bytes ≤ 140737488355328) :
    ∃ v' w', (Builtin.append_ #[t, t] ty #[v, .slice b m cap]).run P w = .ok v' w' ∧ RowIs w' e n v' (len + m) (xs ++ news) ∧ w.grownBy w' (blk v) ∧ (∀ k, blk v' = some k → blk v = some k ∨ w.heap.size ≤ k) := by
  by_cases hm : m = 0
  · subst hm
    have hnil : news = [] := List.eq_nil_of_length_eq_zero (by simpa using hl)
    subst hnil
    refine ⟨v, w, ?_, by simpa using hrow, World.grownBy.refl w _, fun k hk => .inl hk⟩
    have hload : (Builtin.firstCells n 0 (.slice b 0 cap)).run P w = .ok #[] w := by
      cases b with
      | none => simp [Builtin.firstCells]
      | some a => simp [Builtin.firstCells, loadCells, loadCellsFrom]
    rcases hrow.2 with ⟨⟨c, rfl, _⟩, rfl⟩ | ⟨g, cp, cur, rfl, _, _, hle, _⟩
    · cases c <;> simp [Builtin.append_, run_underlying ht, sizeOf, typeInfo, hi, hsize, Builtin.lenOf, hload, storeCells]
    · simp [Builtin.append_, run_underlying ht, sizeOf, typeInfo, hi, hsize, Builtin.lenOf, hload, storeCells, hle]
  · cases b with
    | none => exact absurd (hb rfl) hm
    | some a =>
      have hcells := hnews a rfl
      have own : w.ownsRow 0 e n v len xs → _ := fun hown => run_append_own_at (P := P) w 0 t ty e i z n bytes ht hi hz hsize hby hzs hn v len xs hown a m cap news hl hcells h1 h63 hbytes (Nat.zero_le _)
      have fin : w.ownsRow 0 e n v len xs → v.ownBlock = blk v → ∃ v' w', (Builtin.append_ #[t, t] ty #[v, .slice (some a) m cap]).run P w = .ok v' w' ∧ RowIs w' e n v' (len + m) (xs ++ news) ∧ w.grownBy w' (blk v) ∧ (∀ k, blk v' = some k → blk v = some k ∨ w.heap.size ≤ k) := by
        intro hown hbk
        obtain ⟨v', w', g1, g2, g3, _, g5⟩ := own hown
        refine ⟨v', w', g1, .of_owns g2, hbk ▸ g3, fun k hk => ?_⟩
        have hk' : v'.ownBlock = some k := by
          cases v' with
          | slice c l p =>
            cases c with
            | none => simp [blk] at hk
            | some c =>
              simp only [blk] at hk
              split at hk
              · cases hk
              · simpa [Value.ownBlock] using hk
          | pointer c =>
            rcases g2.2 with ⟨h, _⟩ | ⟨_, _, _, h, _⟩ <;> cases h
          | map c =>
            rcases g2.2 with ⟨h, _⟩ | ⟨_, _, _, h, _⟩ <;> cases h
          | _ => simp [blk] at hk
        rcases g5 with h | h
        · rw [h, hbk] at hk'; exact .inl hk'
        · rw [h] at hk'; simp at hk'; exact .inr (by omega)
      rcases hrow.2 with ⟨⟨c, rfl, _⟩, rfl⟩ | ⟨g, cp, cur, rfl, hcp, hg, hle, hcm, hcs, htake⟩
      · have hx : xs = [] := List.eq_nil_of_length_eq_zero (by simpa using hrow.1)
        subst hx
        cases c with
        | none => exact fin (World.ownsRow_nil w 0 e n) rfl
        | some c =>
          have hgr := run_append_grow (P := P) w t ty e i z ht hi hz c 0 0 [] (by simp) (by simp) a m cap news (by rw [hsize]; exact hl) hcells (by omega) (by simp only [maxLen] at h63; omega) (growslice_fits (by omega) (by rw [hby]; exact hbytes))
          have hown := World.ownsRow_made (e := e) (size := n) w.drew (news.toArray ++ Builtin.zeroCells z.cells (grownCap w (0 + m) 0 e - (0 + m))) (grownCap w (0 + m) 0 e) (base := 0) (Nat.zero_le _) (grownCap_le_maxLen w (0 + m) 0 e h63) (by
            have := grownCap_ge w (0 + m) 0 e
            simp only [Array.size_append, List.size_toArray, size_zeroCells, hzs, hl, ← Nat.add_mul]
            congr 1
            omega)
          refine ⟨_, _, hgr, ?_, ⟨rfl, rfl, rfl, by simp, fun k hk _ => Go.RowKit.Below.heap_alloc w.drew _ k hk⟩, fun k hk => ?_⟩
          · have hge := grownCap_ge w (0 + m) 0 e
            refine ⟨by simp [hl], .inr ⟨w.heap.size, grownCap w (0 + m) 0 e, _, rfl, by omega, heap_alloc_new w.drew _, hge, grownCap_le_maxLen w (0 + m) 0 e h63, ?_, ?_⟩⟩
            · simp only [Array.size_append, List.size_toArray, size_zeroCells, hzs, hl, ← Nat.add_mul, List.length_nil, Nat.zero_add] at hge ⊢
              congr 1
              omega
            · simp only [Array.toList_append, List.nil_append, Nat.zero_add]
              rw [← hl]
              exact List.take_left
          · simp only [blk] at hk
            split at hk
            · cases hk
            · simp at hk; exact .inr (by omega)
      · exact fin ⟨hrow.1, .inr ⟨g, cp, cur, rfl, Nat.zero_le _, hg, hle, hcm, hcs, htake⟩⟩ (by simp [Value.ownBlock, blk, Nat.ne_of_gt hcp])

def apType (P : Program) (t : TypeId) : Option (Nat × Nat × Nat) :=
 match P.underlying t with
 | some (.slice e) => match P.info? e with
  | some i => match i.zero with
   | some z => if z.cells.size = i.size ∧ 0 < i.size then some (e, i.size, i.bytes) else none
   | none => none
  | none => none
 | _ => none

theorem apType_spec {t e n bytes : Nat} (h : apType P t = some (e, n, bytes)) : ∃ i z, P.underlying t = some (.slice e) ∧ P.info? e = some i ∧ i.zero = some z ∧ i.size = n ∧ i.bytes = bytes ∧ z.cells.size = n ∧ 0 < n := by
 unfold apType at h
 split at h
 ·rename_i e' hu
  split at h
  ·rename_i i hi
   split at h
   ·rename_i z hz
    split at h
    ·rename_i hc
     simp only [Option.some.injEq, Prod.mk.injEq] at h
     obtain ⟨rfl, rfl, rfl⟩ := h
     exact ⟨i, z, hu, hi, hz, rfl, rfl, hc.1, hc.2⟩
    ·cases h
   ·cases h
  ·cases h
 ·cases h

theorem news_of {w : World} {ro : Nat → Prop} {n : Nat} {es : List (List RV)} (hn : ∀ e ∈ es, e.length = n) {f : Nat → Value} (hf : ∀ j x, es.flatten[j]? = some x → RRel w ro x (f j)) :
    ((List.range (es.length * n)).map f).length = es.length * n ∧ (∀ u ∈ (List.range (es.length * n)).map f, u.oneCell' = true) ∧ ∀ j x, es.flatten[j]? = some x → RRel w ro x (((List.range (es.length * n)).map f).getD j undef) := by
  refine ⟨by simp, fun u hu => ?_, fun j x hj => ?_⟩
  · rw [List.mem_map] at hu
    obtain ⟨j, hj, rfl⟩ := hu
    rw [List.mem_range] at hj
    have hl := length_flatten_of hn
    exact (hf j (es.flatten[j]'(by omega)) (by simp)).one
  · have hl := length_flatten_of hn
    have hjl := (List.getElem?_eq_some_iff.1 hj).1
    have : j < es.length * n := by omega
    simpa [List.getD, this] using hf j x hj

theorem flatten_append_rel {w : World} {ro : Nat → Prop} {n : Nat} {es fs : List (List RV)} (hn : ∀ e ∈ es, e.length = n) {xs ys : List Value} (hx : xs.length = es.length * n) (h1 : ∀ j x, es.flatten[j]? = some x → RRel w ro x (xs.getD j undef))
    (h2 : ∀ j x, fs.flatten[j]? = some x → RRel w ro x (ys.getD j undef)) : ∀ j x, (es ++ fs).flatten[j]? = some x → RRel w ro x ((xs ++ ys).getD j undef) := by
  intro j x hj
  rw [List.flatten_append] at hj
  have hl := length_flatten_of hn
  by_cases h : j < es.flatten.length
  · rw [List.getElem?_append_left h] at hj
    have := h1 j x hj
    rw [List.getD, List.getElem?_append_left (by omega)]
    exact this
  · rw [List.getElem?_append_right (by omega)] at hj
    have := h2 _ x hj
    rw [List.getD, List.getElem?_append_right (by omega), hx, ← hl]
    exact this

theorem R_append (x y : Operand) (t : TypeId) (ho : o.op = .call { callee := .builtin .append, args := #[x, y], argTypes := #[t, t] }) {e n bytes : Nat} (ht : apType P t = some (e, n, bytes))
    {id : Nat} (hx : aval G s x = .sl id) {es : List (List RV)} (hid : hget s.heap id = some (.row false e n es)) (hb : s.base ≤ id) (hlt : id < s.next)
    {fs : List (List RV)} (hy : aelems s.heap n (aval G s y) = some fs) (hsz : es.length + fs.length ≤ maxLen ∧ (es.length + fs.length) * bytes ≤ 140737488355328) :
    OpStep P G o s (St.put ⟨killL id s.slots, (id, .row false e n (es ++ fs)) :: killH id s.heap, s.next, s.base⟩ o.dst (.sl id)) := by
  intro E a w ⟨β, ro, hr⟩ K Q hK
  obtain ⟨i, z, hu, hi, hz, hsize, hby, hzs, hn⟩ := apType_spec ht
  obtain ⟨b, cap, hc, hnf, hbn, f, hf1, hf2⟩ := aelems_rel hr.heap (hr.eval y) hy
  have hO := hr.heap.objs id _ hid
  cases hO with
  | row _ _ _ xs hrow hne hcells =>
    have hxv : a.eval x = β id := by
      have h := hr.eval x
      rw [hx] at h
      generalize a.eval x = c at h
      cases h with
      | sl _ _ _ hp => exact hp _ _ _ _ hid
    obtain ⟨hl1, hl2, hl3⟩ := news_of hnf hf2
    obtain ⟨v', w', hrun, hrow', hgr, hbk⟩ := run_append_row (P := P) t o.type e hu hi hz hsize hby hzs hn hrow (b := b) (m := fs.length) (cap := cap) hl1 (fun hb => by rw [hbn hb]; rfl)
      (fun a' ha j u hj => by
        have hjl := (List.getElem?_eq_some_iff.1 hj).1
        rw [hl1] at hjl
        have h1 := hf1 a' ha j hjl
        simp [hjl] at hj
        rw [h1, hj]) hl2 hsz.1 hsz.2
    unfold Oper.wp
    simp only [execOp, ho, resolve, invoke, builtin, Sem.run_bind, Sem.run_pure, Result.andThen_ok, List.map_toArray, List.map_cons, List.map_nil, hxv, hc, hrun]
    have hother : ∀ k, k < w.heap.size → blk (β id) ≠ some k → w'.heap[k]? = w.heap[k]? := fun k hk hne => hgr.block k hk (fun e => hne e.symm)
    have hro : ∀ k, ro k → w'.heap[k]? = w.heap[k]? := fun k hk => hother k (hr.heap.lt k hk) fun hbk => hr.heap.disj k hk ⟨id, _, hid, rfl, hbk⟩
    refine hK _ _ ⟨upd β id v', ro, RelAt.put (hr.renew (w' := w') id hb hlt hid (.row false e n (es ++ fs)) v' hgr.os hgr.tape hgr.output hgr.size hother hbk rfl ?_) o.dst _ _ ?_⟩
    · refine .row e n _ _ (by rw [upd_same, List.length_append]; exact hrow') (fun e' he' => ?_) (fun j x hj => ?_)
      · rw [List.mem_append] at he'
        rcases he' with h | h
        · exact hne _ h
        · exact hnf _ h
      · exact (flatten_append_rel hne hrow.1 hcells hl3 j x hj).keep hro fun _ h => h
    · exact .sl _ _ hlt fun z t' n' es' _ => (upd_same _ _ _).symm

theorem R_append_nil (x y : Operand) (t : TypeId) (ho : o.op = .call { callee := .builtin .append, args := #[x, y], argTypes := #[t, t] }) {e n bytes : Nat} (ht : apType P t = some (e, n, bytes))
    (hx : aval G s x = .rv (.v (.slice none 0 0))) (hb : s.base ≤ s.next)
    {fs : List (List RV)} (hy : aelems s.heap n (aval G s y) = some fs) (hsz : fs.length ≤ maxLen ∧ fs.length * bytes ≤ 140737488355328) :
    OpStep P G o s ({ s with heap := (s.next, .row false e n fs) :: s.heap, next := s.next + 1 }.put o.dst (.sl s.next)) := by
  intro E a w ⟨β, ro, hr⟩ K Q hK
  obtain ⟨i, z, hu, hi, hz, hsize, hby, hzs, hn⟩ := apType_spec ht
  obtain ⟨b, cap, hc, hnf, hbn, f, hf1, hf2⟩ := aelems_rel hr.heap (hr.eval y) hy
  obtain ⟨hl1, hl2, hl3⟩ := news_of hnf hf2
  obtain ⟨v', w', hrun, hrow', hgr, hbk⟩ := run_append_row (P := P) (w := w) t o.type e hu hi hz hsize hby hzs hn (v := .slice none 0 0) (len := 0) (xs := []) ⟨by simp, .inl ⟨⟨none, rfl, fun _ h => (by cases h)⟩, rfl⟩⟩ (b := b) (m := fs.length) (cap := cap) hl1 (fun hb => by rw [hbn hb]; rfl)
    (fun a' ha j u hj => by
      have hjl := (List.getElem?_eq_some_iff.1 hj).1
      rw [hl1] at hjl
      have h1 := hf1 a' ha j hjl
      simp [hjl] at hj
      rw [h1, hj]) hl2 (by omega) (by rw [Nat.zero_add]; exact hsz.2)
  unfold Oper.wp
  simp only [execOp, ho, resolve, invoke, builtin, Sem.run_bind, Sem.run_pure, Result.andThen_ok, List.map_toArray, List.map_cons, List.map_nil, hr.evalV hx, hc, hrun]
  have hnone : hget s.heap s.next = none := by
    cases hg : hget s.heap s.next with
    | none => rfl
    | some p => have := hr.trans.new _ _ hg; omega
  have hw : ∀ b, b < w.heap.size → w'.heap[b]? = w.heap[b]? := fun b hb => hgr.block b hb (by simp [blk])
  have hro : ∀ b, ro b → w'.heap[b]? = w.heap[b]? := fun b hb => hw b (hr.heap.lt b hb)
  refine hK _ _ ⟨upd β s.next v', ro, RelAt.put (hr.new (w' := w') s.next hnone hb (Nat.le_refl _) (.row false e n fs) v' hgr.os hgr.tape hgr.output hgr.size hw (fun b hb => ?_) rfl ?_) o.dst _ _ ?_⟩
  · rcases hbk b hb with h | h
    · simp [blk] at h
    · exact h
  · refine .row e n _ _ (by rw [upd_same]; simpa using hrow') hnf (fun j x hj => (hl3 j x hj).keep hro fun _ h => h)
  · exact .sl _ _ (Nat.lt_succ_self _) fun z t' n' es' _ => (upd_same _ _ _).symm


theorem run_sliceBounds_lh {cap len : Nat} {isS : Bool} {lo hi mx : Option Value} {l h m : Nat} (hm : (mx = none ∧ m = cap) ∨ ∃ k, mx = some (.int k (m : Int))) (hh : (hi = none ∧ mx = none ∧ h = len) ∨ ∃ k, hi = some (.int k (h : Int)))
    (hl : (lo = none ∧ l = 0) ∨ ∃ k, lo = some (.int k (l : Int))) (h1 : l ≤ h) (h2 : h ≤ m) (h3 : m ≤ cap) (w : World) : (Instr.sliceBounds isS len cap lo hi mx).run P w = .ok (l, h, m) w := by
  rcases hm with ⟨rfl, rfl⟩ | ⟨km, rfl⟩ <;> rcases hh with ⟨rfl, hmx, rfl⟩ | ⟨kh, rfl⟩ <;> rcases hl with ⟨rfl, rfl⟩ | ⟨kl, rfl⟩
  all_goals first
    | (cases hmx; done)
    | simp [Instr.sliceBounds, Instr.sliceBound, asIntOf, h1, h2, h3]

theorem R_slice_str (t : TypeId) (x : Operand) (lo hi : Option Operand) (ho : o.op = .slice t x lo hi none) (ht : P.underlying t = some .string) {b : ByteArray} (hx : aval G s x = .rv (.v (.string b))) {l h : Nat}
    (hl : (lo = none ∧ l = 0) ∨ ∃ y k, lo = some y ∧ aval G s y = .rv (.v (.int k (l : Int)))) (hh : (hi = none ∧ h = b.size) ∨ ∃ y k, hi = some y ∧ aval G s y = .rv (.v (.int k (h : Int)))) (h1 : l ≤ h) (h2 : h ≤ b.size) :
    VStep P G o s (.rv (.v (.string (b.extract l h)))) :=
  fun _ a w β ro hr => by
    have hb := run_sliceBounds_lh (P := P) (cap := b.size) (len := b.size) (isS := false) (lo := lo.map a.eval) (hi := hi.map a.eval) (mx := none) (l := l) (h := h) (m := b.size) (.inl ⟨rfl, rfl⟩)
      (by rcases hh with ⟨rfl, rfl⟩ | ⟨y, k, rfl, hy⟩
          · exact .inl ⟨rfl, rfl, rfl⟩
          · exact .inr ⟨k, by simp [hr.evalV hy]⟩)
      (by rcases hl with ⟨rfl, rfl⟩ | ⟨y, k, rfl, hy⟩
          · exact .inl ⟨rfl, rfl⟩
          · exact .inr ⟨k, by simp [hr.evalV hy]⟩) h1 h2 (Nat.le_refl _) w
    exact ⟨_, by simp [execOp, ho, hr.evalV hx, Instr.sliceAt, run_underlying ht, Instr.slice, hb], .ofV rfl⟩

theorem R_convert_int (src dst : TypeId) (x : Operand) (ho : o.op = .convert src dst x) (hs : (P.underlying src).isSome = true) {k' : IntKind} (hd : P.underlying dst = some (.int k')) {k : IntKind} {n : Int} (hx : aval G s x = .rv (.v (.int k n))) :
    VStep P G o s (.rv (.v (.int k' (k'.wrap n)))) :=
  fun _ a w β ro hr => by
    cases hu : P.underlying src with
    | none => simp [hu] at hs
    | some d => exact ⟨_, by simp [execOp, ho, hr.evalV hx, convert, run_underlying hu, run_underlying hd, Conv.intToInt], .ofV rfl⟩

theorem R_min2 (x y : Operand) (ts : Array TypeId) (ho : o.op = .call { callee := .builtin .min, args := #[x, y], argTypes := ts }) {k : IntKind} {m n : Int} (hx : aval G s x = .rv (.v (.int k m))) (hy : aval G s y = .rv (.v (.int k n))) :
    VStep P G o s (.rv (.v (.int k (if n < m then n else m)))) :=
  fun _ a w β ro hr => ⟨.int k (if n < m then n else m), by simp [execOp, ho, resolve, invoke, builtin, hr.evalV hx, hr.evalV hy, run_min_int2], .ofV rfl⟩
theorem R_max2 (x y : Operand) (ts : Array TypeId) (ho : o.op = .call { callee := .builtin .max, args := #[x, y], argTypes := ts }) {k : IntKind} {m n : Int} (hx : aval G s x = .rv (.v (.int k m))) (hy : aval G s y = .rv (.v (.int k n))) :
    VStep P G o s (.rv (.v (.int k (if n > m then n else m)))) :=
  fun _ a w β ro hr => ⟨.int k (if n > m then n else m), by simp [execOp, ho, resolve, invoke, builtin, hr.evalV hx, hr.evalV hy, run_max_int2], .ofV rfl⟩

theorem R_concat (tx ty : TypeId) (x y : Operand) (ho : o.op = .binOp .add tx x y ty) {u v : ByteArray} (hx : aval G s x = .rv (.v (.string u))) (hy : aval G s y = .rv (.v (.string v))) (hsz : u.size + v.size ≤ 9223372036854775807) :
    VStep P G o s (.rv (.v (.string (u ++ v)))) :=
  R_bin .add tx ty x y ho hx hy (by
    simp only [binV]
    rw [if_neg (by simp only [IntKind.max_i64]; omega)])
end
end Go.Av
namespace Go.Av
open Go

def putS (s : St) (o : Oper) (v : AV) : Option St := some (s.put o.dst v)

def isStr (P : Program) (t : TypeId) : Bool :=
 match P.underlying t with
 | some .string => true
 | _ => false
def isBoolT (P : Program) (t : TypeId) : Bool :=
 match P.underlying t with
 | some .bool => true
 | _ => false
theorem isStr_spec {P : Program} {t : TypeId} (h : isStr P t = true) : P.underlying t = some .string := by
 unfold isStr at h
 split at h
 ·assumption
 ·cases h
theorem isBoolT_spec {P : Program} {t : TypeId} (h : isBoolT P t = true) : P.underlying t = some .bool := by
 unfold isBoolT at h
 split at h
 ·assumption
 ·cases h

def abuiltin (P : Program) (G : Glob) (b : Builtin) (xs : List Operand) (ts : List TypeId) (s : St) : Option AV :=
 match b, xs, ts with
 | .len, [x], [t] => match alen s.heap (aval G s x) with
  | some m => if isSlice P t then some (.rv (.v (.int .i64 (m : Int)))) else none
  | none => match aval G s x with
   | .rv (.v (.string b)) => if isStr P t then some (.rv (.v (.int .i64 (b.size : Int)))) else none
   | _ => match arrLen P t with
    | some n => some (.rv (.v (.int .i64 (n : Int))))
    | none => none
 | .min, [x, y], _ => match aval G s x, aval G s y with
  | .rv (.v (.int k m)), .rv (.v (.int k' n)) => if k = k' then some (.rv (.v (.int k (if n < m then n else m)))) else none
  | _, _ => none
 | .max, [x, y], _ => match aval G s x, aval G s y with
  | .rv (.v (.int k m)), .rv (.v (.int k' n)) => if k = k' then some (.rv (.v (.int k (if n > m then n else m)))) else none
  | _, _ => none
 | _, _, _ => none

def vstep (P : Program) (G : Glob) (o : Oper) (s : St) : Option AV :=
  match o.op with
  | .move x => some (aval G s x)
  | .assign x => some (aval G s x)
  | .load t x => match acells s.heap (aval G s x) with
    | some cs => match aggSize P t with
      | some n => if n ≤ cs.length ∧ 0 < n then some (.agg (cs.take n)) else none
      | none => if scalar P t then match cs with
        | y :: _ => some y
        | [] => none
        else none
    | none => none
  | .fieldAddr t x f => match fldOff P t f, ptrA s.heap (aval G s x) with
    | some k, true => some (shiftP k (aval G s x))
    | _, _ => none
  | .nilCheck x => match ptrA s.heap (aval G s x) with
    | true => some (aval G s x)
    | false => none
  | .field t x f => match aval G s x, fldPart P t f with
    | .agg cs, some (off, none) => match cs[off]? with
      | some v => some v
      | none => none
    | .agg cs, some (off, some n) => if off + n ≤ cs.length then some (.agg ((cs.drop off).take n)) else none
    | _, _ => none
  | .indexAddr t x i => match aval G s i with
    | .rv (.v (.int _ (.ofNat j))) => match elemSize P t with
      | some n => match aelem s.heap n j (aval G s x) with
        | some p => some p
        | none => none
      | none => match arrElem P t, acells s.heap (aval G s x) with
        | some (len, n), some _ => if j < len then match ashift (j * n) (aval G s x) with
          | some p => some p
          | none => none
          else none
        | _, _ => none
    | _ => none
  | .index t x i => match aval G s i, aval G s x with
    | .rv (.v (.int _ (.ofNat j))), .rv (.v (.string b)) => if isStr P t then match b.data.toList[j]? with
      | some u => some (.rv (.v (.int .u8 (u.toNat : Int))))
      | none => none
      else none
    | _, _ => none
  | .binOp op tx x y _ => match aval G s x, aval G s y with
    | .rv (.v (.bool u)), .rv (.v (.bool v)) => if isBoolT P tx then match op with
      | .eql => some (.rv (.v (.bool (u == v))))
      | .neq => some (.rv (.v (.bool (!(u == v)))))
      | _ => none
      else none
    | .rv (.v u), .rv (.v v) => match binV op u v with
      | some c => some (.rv (.v c))
      | none => none
    | .agg cs, .agg ds => match eqStruct P tx, avals cs, avals ds with
      | some fs, some xs, some ys => match eqFlat P 0 fs xs ys with
        | some b => match op with
          | .eql => some (.rv (.v (.bool b)))
          | .neq => some (.rv (.v (.bool (!b))))
          | _ => none
        | none => none
      | _, _, _ => none
    | _, _ => none
  | .unOp op _ x => match op, aval G s x with
    | .not, .rv (.v (.bool b)) => some (.rv (.v (.bool (!b))))
    | .neg, .rv (.v (.int k n)) => some (.rv (.v (.int k (k.wrap (0 - n)))))
    | _, _ => none
  | .pick c x y => match aval G s c with
    | .rv (.v (.bool true)) => some (aval G s x)
    | .rv (.v (.bool false)) => some (aval G s y)
    | _ => none
  | .extract x i => match aval G s x with
    | .tuple cs => match cs[i]? with
      | some v => some v
      | none => none
    | _ => none
  | .build t parts => match places P t, zeroCells P t with
    | some pl, some zs => if zs.all Value.oneCell' ∧ (parts.toList.map fun p => (p.1, aval G s p.2)).all (fun p => (vcells p.2).all (cellOkIn s.heap)) then
        match afill pl (zs.map fun z => .rv (.v z)) (parts.toList.map fun p => (p.1, aval G s p.2)) with
        | some ds => some (.agg ds)
        | none => none
      else none
    | _, _ => none
  | .call c => match c.callee with
    | .builtin b => abuiltin P G b c.args.toList c.argTypes.toList s
    | _ => none
  | .convert src dst x => match aval G s x, P.underlying dst with
    | .rv (.v (.int _ n)), some (.int k') => if (P.underlying src).isSome then some (.rv (.v (.int k' (k'.wrap n)))) else none
    | _, _ => none
  | _ => none

def astep (P : Program) (G : Glob) (o : Oper) (s : St) : Option St :=
 match vstep P G o s with
 | some v => putS s o v
 | none => match o.op with
  | .store t p x => match aval G s p with
   | .ptr id off => match hget s.heap id with
    | some (.box bt cs) => if (vcells (aval G s x)).all (cellOkIn s.heap) ∧ (P.info? t).map (·.size) = some (vcells (aval G s x)).length ∧ off + (vcells (aval G s x)).length ≤ cs.length
     then putS { s with heap := hset s.heap id (.box bt (splice cs off (vcells (aval G s x)))) } o .top else none
    | _ => none
   | .eptr id i off => match hget s.heap id with
    | some (.row false bt n es) => match es[i]?, rvs (vcells (aval G s x)) with
     | some e, some vs => if (P.info? t).map (·.size) = some vs.length ∧ off + vs.length ≤ n then putS { s with heap := hset s.heap id (.row false bt n (es.set i (splice e off vs))) } o .top else none
     | _, _ => none
    | _ => none
   | _ => none
  | .alloc t => match zeroCells P t with
   | some zs => if zs.all Value.oneCell' ∧ s.base ≤ s.next then putS { s with heap := (s.next, .box t (zs.map fun z => .rv (.v z))) :: s.heap, next := s.next + 1 } o (.ptr s.next 0) else none
   | none => none
  | .box t x => if (vcells (aval G s x)).all (cellOkIn s.heap) ∧ s.base ≤ s.next then putS { s with heap := (s.next, .box t (vcells (aval G s x))) :: s.heap, next := s.next + 1 } o (.ptr s.next 0) else none
  | _ => none

section
variable {P : Program} {G : Glob} {o : Oper} {s s' : St} {v : AV}

theorem abuiltin_sound {b : Builtin} {args : Array Operand} {ts : Array TypeId} (ho : o.op = .call { callee := .builtin b, args, argTypes := ts }) (h : abuiltin P G b args.toList ts.toList s = some v) : VStep P G o s v := by
 unfold abuiltin at h
 split at h
 ·rename_i x t ha htt
  have e1 : args = #[x] := by apply Array.ext'; simpa using ha
  have e2 : ts = #[t] := by apply Array.ext'; simpa using htt
  subst e1 e2
  split at h
  ·rename_i m hm
   split at h
   ·rename_i ht
    simp only [Option.some.injEq] at h; subst h; exact R_len x t ho ht hm
   ·cases h
  ·split at h
   ·rename_i b hx
    split at h
    ·rename_i ht
     simp only [Option.some.injEq] at h; subst h; exact R_len_str x t ho (isStr_spec ht) hx
    ·cases h
   ·split at h
    ·rename_i n hn
     simp only [Option.some.injEq] at h; subst h; exact R_len_arr x t ho hn
    ·cases h
 ·rename_i x y ha
  have e1 : args = #[x, y] := by apply Array.ext'; simpa using ha
  subst e1
  split at h
  ·rename_i k m k' n hx hy
   split at h
   ·rename_i hk
    subst hk
    simp only [Option.some.injEq] at h; subst h; exact R_min2 x y ts ho hx hy
   ·cases h
  ·cases h
 ·rename_i x y ha
  have e1 : args = #[x, y] := by apply Array.ext'; simpa using ha
  subst e1
  split at h
  ·rename_i k m k' n hx hy
   split at h
   ·rename_i hk
    subst hk
    simp only [Option.some.injEq] at h; subst h; exact R_max2 x y ts ho hx hy
   ·cases h
  ·cases h
 ·cases h

theorem vstep_sound (h : vstep P G o s = some v) : VStep P G o s v := by
 unfold vstep at h
 split at h
 ·rename_i x ho
  simp only [Option.some.injEq] at h; subst h; exact R_move x ho
 ·rename_i x ho
  simp only [Option.some.injEq] at h; subst h; exact R_assign x ho
 ·rename_i t x ho
  split at h
  ·rename_i cs hc
   split at h
   ·rename_i n hn
    split at h
    ·rename_i hl
     simp only [Option.some.injEq] at h; subst h; exact R_load_agg t x ho hn hc hl.1 hl.2
    ·cases h
   ·split at h
    ·rename_i hs
     split at h
     ·simp only [Option.some.injEq] at h; subst h; exact R_load t x ho hs hc
     ·cases h
    ·cases h
  ·cases h
 ·rename_i t x f ho
  split at h
  ·rename_i k hk hc
   simp only [Option.some.injEq] at h; subst h; exact R_fieldAddrP t x f ho hk hc
  ·cases h
 ·rename_i x ho
  split at h
  ·rename_i hc
   simp only [Option.some.injEq] at h; subst h; exact R_nilCheckP x ho hc
  ·cases h
 ·rename_i t x f ho
  split at h
  ·rename_i cs off hx ht
   split at h
   ·rename_i v hv
    simp only [Option.some.injEq] at h; subst h; exact R_field t x f ho ht hx hv
   ·cases h
  ·rename_i cs off n hx ht
   split at h
   ·rename_i hn
    simp only [Option.some.injEq] at h; subst h; exact R_field_agg t x f ho ht hx hn
   ·cases h
  ·cases h
 ·rename_i t x i ho
  split at h
  ·rename_i k j hi
   split at h
   ·rename_i n hn
    split at h
    ·rename_i p hp
     simp only [Option.some.injEq] at h; subst h; exact R_indexAddr t x i ho hn hi hp
    ·cases h
   ·split at h
    ·rename_i len n cs ht hcs
     split at h
     ·rename_i hj
      split at h
      ·rename_i p hp
       simp only [Option.some.injEq] at h; subst h; exact R_indexAddr_arr t x i ho ht hi hj hcs hp
      ·cases h
     ·cases h
    ·cases h
  ·cases h
 ·rename_i t x i ho
  split at h
  ·rename_i k j b hi hx
   split at h
   ·rename_i ht
    split at h
    ·rename_i u hu
     simp only [Option.some.injEq] at h; subst h; exact R_index_str t x i ho (isStr_spec ht) hi hx hu
    ·cases h
   ·cases h
  ·cases h
 ·rename_i op tx x y ty ho
  split at h
  ·rename_i u v hx hy
   split at h
   ·rename_i ht
    split at h
    ·simp only [Option.some.injEq] at h; subst h; exact R_eql_bool tx ty x y ho (isBoolT_spec ht) hx hy
    ·simp only [Option.some.injEq] at h; subst h; exact R_neq_bool tx ty x y ho (isBoolT_spec ht) hx hy
    ·cases h
   ·cases h
  ·rename_i u v _ hx hy
   split at h
   ·rename_i c hc
    simp only [Option.some.injEq] at h; subst h; exact R_bin _ tx ty x y ho hx hy hc
   ·cases h
  ·rename_i cs ds hx hy
   split at h
   ·rename_i fs xs ys hf hxs hys
    split at h
    ·rename_i b hb
     split at h
     ·simp only [Option.some.injEq] at h; subst h; exact R_eql_agg tx ty x y ho hf hx hy hxs hys hb
     ·simp only [Option.some.injEq] at h; subst h; exact R_neq_agg tx ty x y ho hf hx hy hxs hys hb
     ·cases h
    ·cases h
   ·cases h
  ·cases h
 ·rename_i op t x ho
  split at h
  ·rename_i b hx
   simp only [Option.some.injEq] at h; subst h; exact R_not t x ho hx
  ·rename_i k n hx
   simp only [Option.some.injEq] at h; subst h; exact R_neg t x ho hx
  ·cases h
 ·rename_i c x y ho
  split at h
  ·rename_i hc
   simp only [Option.some.injEq] at h; subst h; exact R_pick c x y ho hc rfl
  ·rename_i hc
   simp only [Option.some.injEq] at h; subst h; exact R_pick c x y ho hc rfl
  ·cases h
 ·rename_i x i ho
  split at h
  ·rename_i cs hx
   split at h
   ·rename_i v hv
    simp only [Option.some.injEq] at h; subst h; exact R_extract x i ho hx hv
   ·cases h
  ·cases h
 ·rename_i t parts ho
  split at h
  ·rename_i pl zs hp hz
   split at h
   ·rename_i hc
    split at h
    ·rename_i ds hf
     simp only [Option.some.injEq] at h; subst h; exact R_build t parts ho hp hz hc.1 rfl hc.2 hf
    ·cases h
   ·cases h
  ·cases h
 ·rename_i c ho
  split at h
  ·rename_i b hb
   obtain ⟨callee, args, ts⟩ := c
   simp only at hb h
   subst hb
   exact abuiltin_sound ho h
  ·cases h
 ·rename_i src dst x ho
  split at h
  ·rename_i k n k' hx hd
   split at h
   ·rename_i hs
    simp only [Option.some.injEq] at h; subst h; exact R_convert_int src dst x ho hs hd hx
   ·cases h
  ·cases h
 ·cases h



theorem astep_sound (h : astep P G o s = some s') : OpStep P G o s s' := by
 unfold astep at h
 split at h
 ·rename_i v hv
  simp only [putS, Option.some.injEq] at h
  subst h
  exact (vstep_sound hv).step
 ·split at h
  ·rename_i t p x ho
   split at h
   ·rename_i id off hp
    split at h
    ·rename_i bt cs hg
     split at h
     ·rename_i hc
      simp only [putS, Option.some.injEq] at h; subst h; exact R_store t p x ho hp hg rfl hc.1 hc.2.1 hc.2.2
     ·cases h
    ·cases h
   ·rename_i id i off hp
    split at h
    ·rename_i bt n es hg
     split at h
     ·rename_i e vs he hv
      split at h
      ·rename_i hc
       simp only [putS, Option.some.injEq] at h; subst h; exact R_store_row t p x ho hp hg he hv hc.1 hc.2
      ·cases h
     ·cases h
    ·cases h
   ·cases h
  ·rename_i t ho
   split at h
   ·rename_i zs hz
    split at h
    ·rename_i hc
     simp only [putS, Option.some.injEq] at h; subst h; exact R_alloc t ho hc.2 hz hc.1
    ·cases h
   ·cases h
  ·rename_i t x ho
   split at h
   ·rename_i hc
    simp only [putS, Option.some.injEq] at h; subst h; exact R_box t x ho hc.2 hc.1
   ·cases h
  ·cases h

def gwant (ops : Array Oper) (s : St) (o : Oper) : Option Bool :=
 match o.guard with
 | none => some true
 | some (j, b) => match gslot ops j with
  | some d => match s.slots[d]? with
   | some (.rv (.v (.bool c))) => some (match b, c with
    | true, true => true
    | false, false => true
    | _, _ => false)
   | some (.tuple _) => some false
   | _ => none
  | none => none

def aops (P : Program) (G : Glob) (ops : Array Oper) : Nat → List Oper → St → Option St
 | 0, _, s => some s
 | n + 1, o :: r, s => match gwant ops s o with
  | some true => match astep P G o s with
   | some s' => aops P G ops n r s'
   | none => none
  | some false => aops P G ops n r (s.put o.dst (.tuple []))
  | none => none
 | _ + 1, [], _ => none

variable {Q : Exit → St → Prop}

theorem AOps.step {ops : Array Oper} {rest : List Oper} (hg : gwant ops s o = some true) (h : OpStep P G o s s') (k : AOps P G ops Q rest s') : AOps P G ops Q (o :: rest) s := by
 unfold gwant at hg
 split at hg
 ·rename_i hn
  exact AOps.cons hn h k
 ·rename_i j b hn
  split at hg
  ·rename_i d hd
   split at hg
   ·rename_i c hs
    simp only [Option.some.injEq] at hg
    have hbc : b = c := by cases b <;> cases c <;> simp_all
    subst hbc
    exact AOps.guarded hn hd hs h k
   ·cases hg
   ·cases hg
  ·cases hg

theorem AOps.pass {ops : Array Oper} {rest : List Oper} (hg : gwant ops s o = some false) (k : AOps P G ops Q rest (s.put o.dst (.tuple []))) : AOps P G ops Q (o :: rest) s := by
 unfold gwant at hg
 split at hg
 ·cases hg
 ·rename_i j b hn
  split at hg
  ·rename_i d hd
   split at hg
   ·rename_i c hs
    simp only [Option.some.injEq] at hg
    have hbc : c = !b := by cases b <;> cases c <;> simp_all
    subst hbc
    exact AOps.skipped hn hd hs k
   ·rename_i cs hs
    exact AOps.skippedN hn hd hs k
   ·cases hg
  ·cases hg

theorem AOps.run {ops : Array Oper} : ∀ (n : Nat) {l : List Oper} {s s' : St}, aops P G ops n l s = some s' → AOps P G ops Q (l.drop n) s' → AOps P G ops Q l s
 | 0, l, s, s', h, k => by
  simp [aops] at h
  subst h
  exact k
 | n + 1, [], s, s', h, k => by simp [aops] at h
 | n + 1, o :: r, s, s', h, k => by
  simp only [aops] at h
  split at h
  ·rename_i hg
   split at h
   ·rename_i s1 h1
    exact AOps.step hg (astep_sound h1) (AOps.run n h k)
   ·cases h
  ·rename_i hg
   exact AOps.pass hg (AOps.run n h k)
  ·cases h

end
end Go.Av
namespace Go.Av
open Go

abbrev vi (n : Int) : AV := .rv (.v (.int .i64 n))
abbrev vb (b : Bool) : AV := .rv (.v (.bool b))
abbrev vs (s : ByteArray) : AV := .rv (.v (.string s))
abbrev avs (l : List RV) : List AV := l.map .rv
def mkSl : Nat → Nat → List (Nat × AV) → List AV
 | _, 0, _ => []
 | i, k + 1, [] => .top :: mkSl (i + 1) k []
 | i, k + 1, (j, v) :: r => if i = j then v :: mkSl (i + 1) k r else .top :: mkSl (i + 1) k ((j, v) :: r)
theorem wrap64_of (n : Int) (h1 : -9223372036854775808 ≤ n) (h2 : n ≤ 9223372036854775807) : IntKind.i64.wrap n = n := by
 rw [IntKind.wrap_i64]; omega
def viewH (σ : Heap) : Heap → Heap
 | [] => []
 | (k, .box t cs) :: r => (k, .box t (viewL σ cs)) :: viewH σ r
 | (k, .row z t n es) :: r => (k, .row z t n es) :: viewH σ r
 | (k, .oth Φ) :: r => (k, .oth Φ) :: viewH σ r

def viewO (σ : Heap) : AObj → AObj
 | .box t cs => .box t (viewL σ cs)
 | .row z t n es => .row z t n es
 | .oth Φ => .oth Φ

theorem hget_viewH (σ : Heap) : ∀ (h : Heap) (k : Nat), hget (viewH σ h) k = (hget h k).map (viewO σ)
 | [], k => by simp [viewH, hget]
 | (j, .box t cs) :: r, k => by
  by_cases hj : j = k
  ·simp [viewH, hget, hj, viewO]
  ·simp [viewH, hget, hj, hget_viewH σ r k]
 | (j, .row z t n es) :: r, k => by
  by_cases hj : j = k
  ·simp [viewH, hget, hj, viewO]
  ·simp [viewH, hget, hj, hget_viewH σ r k]
 | (j, .oth Φ) :: r, k => by
  by_cases hj : j = k
  ·simp [viewH, hget, hj, viewO]
  ·simp [viewH, hget, hj, hget_viewH σ r k]

theorem RowIs.asRV {w : World} {ro : Nat → Prop} {t : TypeId} {n : Nat} {v : Value} {es : List (List RV)} {xs : List Value} (h : RowIs w t n v es.length xs) (hn : ∀ e ∈ es, e.length = n) (hc : ∀ j x, es.flatten[j]? = some x → RRel w ro x (xs.getD j undef))
    (hro : ∀ b, blk v = some b → ro b) : RRel w ro (.sl n es) v := by
  rcases h.2 with ⟨⟨b, hv, _⟩, hz⟩ | ⟨g, cap, cur, hv, hp, hg, hle, hcm, hcs, htake⟩
  · subst hv
    have : es = [] := List.eq_nil_of_length_eq_zero hz
    subst this
    exact .sl n [] b 0 (fun _ => undef) (by simp) (Nat.zero_le _) (by simp) (by simp) (by simp)
  · subst hv
    refine .sl n es _ cap (fun j => xs.getD j undef) hle hcm hn (fun _ => ⟨⟨g, 0, none⟩, rfl, fun j hj => ⟨hro g (by simp [blk, Nat.ne_of_gt hp]), ?_⟩⟩) hc
    rw [addLit, Nat.zero_add, cell_of_row w g j cur t (0, 0) hg]
    have hx : xs[j]? = cur[j]? := by rw [← htake, List.getElem?_take, if_pos hj]; simp
    have hxl : j < xs.length := by rw [h.1]; exact hj
    rw [← hx]
    simp [List.getD, List.getElem?_eq_getElem hxl]

def frz (s : St) (id : Nat) : St :=
 match hget s.heap id with
 | some (.row false t n es) => ⟨viewL [(id, .row true t n es)] s.slots, viewH [(id, .row true t n es)] (hdel s.heap id), s.next, s.base⟩
 | _ => s

theorem Le.frz (s : St) (id : Nat) : Le s (frz s id) := by
 unfold Go.Av.frz
 split
 ·rename_i t n es hid
  intro E G a w ⟨β, ro, h⟩
  have hO := h.heap.objs id _ hid
  cases hO with
  | row _ _ _ xs hrow hn hc =>
   -- the immutable blocks, and this one
   have hrv : RRel w (fun b => ro b ∨ blk (β id) = some b) (.sl n es) (β id) := hrow.asRV hn (fun j x hj => (hc j x hj).keep (fun _ _ => rfl) fun _ h => .inl h) fun b hb => .inr hb
   have hsub : ∀ k o, hget (hdel s.heap id) k = some o → hget s.heap k = some o ∧ k ≠ id := by
    intro k o hk
    rw [hget_hdel] at hk
    split at hk
    ·cases hk
    ·rename_i hne
     exact ⟨hk, fun e => hne e.symm⟩
   have view : ∀ x c, ARel w ro s.heap β s.next x c → ARel w (fun b => ro b ∨ blk (β id) = some b) (viewH [(id, .row true t n es)] (hdel s.heap id)) β s.next (viewA [(id, .row true t n es)] x) c := by
    intro x c hx
    induction hx with
    | rv x c hx => exact .rv x c (hx.keep (fun _ _ => rfl) fun _ h => .inl h)
    | agg cs c h1 _ ih =>
     refine .agg _ c (by rw [viewL_length]; exact h1) fun j x hj => ?_
     obtain ⟨y, hy, rfl⟩ := viewL_at _ hj
     exact ih j y hy
    | tuple cs c h1 _ ih =>
     refine .tuple _ c (by rw [viewL_length]; exact h1) fun j x hj => ?_
     obtain ⟨y, hy, rfl⟩ := viewL_at _ hj
     exact ih j y hy
    | ptr k off c hl hp =>
     refine .ptr k off c hl fun t' cs' hg => ?_
     rw [hget_viewH] at hg
     cases hk : hget (hdel s.heap id) k with
     | none => simp [hk] at hg
     | some p =>
      cases p with
      | box t2 cs2 => exact hp t2 cs2 (hsub k _ hk).1
      | row => simp [hk, viewO] at hg
      | oth => simp [hk, viewO] at hg
    | bsl k off c hl hp =>
     refine .bsl k off c hl fun t' cs' hg => ?_
     rw [hget_viewH] at hg
     cases hk : hget (hdel s.heap id) k with
     | none => simp [hk] at hg
     | some p =>
      cases p with
      | box t2 cs2 => exact hp t2 cs2 (hsub k _ hk).1
      | row => simp [hk, viewO] at hg
      | oth => simp [hk, viewO] at hg
    | eptr k i off c hl hp =>
     refine .eptr k i off c hl fun z' t' n' es' hg => ?_
     rw [hget_viewH] at hg
     cases hk : hget (hdel s.heap id) k with
     | none => simp [hk] at hg
     | some p =>
      cases p with
      | box t2 cs2 => simp [hk, viewO] at hg
      | oth => simp [hk, viewO] at hg
      | row z2 t2 n2 es2 =>
       simp only [hk, viewO, Option.map_some, Option.some.injEq, AObj.row.injEq] at hg
       obtain ⟨rfl, rfl, rfl, rfl⟩ := hg
       exact hp _ _ _ _ (hsub k _ hk).1
    | sl k c hl hp =>
     simp only [viewA, hget]
     by_cases hk : id = k
     ·subst hk
      simp only [if_true]
      rw [hp _ _ _ _ hid]
      exact .rv _ _ hrv
     ·simp only [if_neg hk]
      refine .sl k c hl fun z' t' n' es' hg => ?_
      rw [hget_viewH] at hg
      cases hk' : hget (hdel s.heap id) k with
      | none => simp [hk'] at hg
      | some p =>
       cases p with
       | box t2 cs2 => simp [hk', viewO] at hg
       | oth => simp [hk', viewO] at hg
       | row z2 t2 n2 es2 => exact hp _ _ _ _ (hsub k _ hk').1
    | fn f p q c d h1 h2 _ _ ih1 ih2 =>
     refine .fn f _ _ c d (by rw [viewL_length]; exact h1) (by rw [viewL_length]; exact h2) (fun j x hj => ?_) (fun j x hj => ?_)
     ·obtain ⟨y, hy, rfl⟩ := viewL_at _ hj
      exact ih1 j y hy
     ·obtain ⟨y, hy, rfl⟩ := viewL_at _ hj
      exact ih2 j y hy
    | ref k c hl hp =>
     refine .ref k c hl fun Φ hg => ?_
     rw [hget_viewH] at hg
     cases hk : hget (hdel s.heap id) k with
     | none => simp [hk] at hg
     | some p =>
      cases p with
      | box => simp [hk, viewO] at hg
      | row => simp [hk, viewO] at hg
      | oth Φ' => exact hp Φ' (hsub k _ hk).1
    | top c => exact .top c
   have back : ∀ k o, hget (viewH [(id, .row true t n es)] (hdel s.heap id)) k = some o → ∃ p, hget s.heap k = some p ∧ k ≠ id ∧ p.live = o.live ∧ o = viewO [(id, .row true t n es)] p := by
    intro k o hg
    rw [hget_viewH] at hg
    cases hk : hget (hdel s.heap id) k with
    | none => simp [hk] at hg
    | some p =>
     obtain ⟨h1, h2⟩ := hsub k p hk
     refine ⟨p, h1, h2, ?_, ?_⟩
     ·simp [hk] at hg
      subst hg
      cases p <;> rfl
     ·simp [hk] at hg
      exact hg.symm
   refine ⟨β, fun b => ro b ∨ blk (β id) = some b, h.defers, by simpa [viewL_length] using h.size, fun i x hx => ?_, ⟨fun k o hg => ?_, fun k k' o o' b hg hg' hl hl' hb hb' => ?_, fun b hb => ?_, fun b hb => ?_⟩,
    h.glob.keep (fun _ _ => rfl) fun _ h => .inl h, ?_, h.base⟩
   ·obtain ⟨y, hy, rfl⟩ := viewL_at _ hx
    exact view _ _ (h.slot i y hy)
   ·obtain ⟨p, h1, h2, h3, rfl⟩ := back k o hg
    have ho := h.heap.objs k p h1
    cases ho with
    | box t' cs' b arr e1 e2 e3 e4 =>
     refine .box t' _ b arr e1 e2 (by rw [viewL_length]; exact e3) fun j x hj => ?_
     obtain ⟨y, hy, rfl⟩ := viewL_at _ hj
     exact view _ _ (e4 j y hy)
    | row t' n' es' xs' e1 e2 e3 => exact .row t' n' es' xs' e1 e2 fun j x hj => (e3 j x hj).keep (fun _ _ => rfl) fun _ h => .inl h
    | fro t' n' es' e1 => exact .fro t' n' es' (e1.keep (fun _ _ => rfl) fun _ h => .inl h)
    | oth Φ b o e1 e2 e3 => exact .oth Φ b o e1 e2 (Φ.mono _ _ _ _ (fun x c h => h.keep (fun _ _ => rfl) fun _ h => .inl h) e3)
   ·obtain ⟨p, h1, _, h3, _⟩ := back k o hg
    obtain ⟨p', h1', _, h3', _⟩ := back k' o' hg'
    exact h.heap.inj k k' p p' b h1 h1' (h3.trans hl) (h3'.trans hl') hb hb'
   ·rintro ⟨k, o, hg, hl, hbk⟩
    obtain ⟨p, h1, h2, h3, _⟩ := back k o hg
    rcases hb with hb | hb
    ·exact h.heap.disj b hb ⟨k, p, h1, h3.trans hl, hbk⟩
    ·exact h2 (h.heap.inj k id p _ b h1 hid (h3.trans hl) rfl hbk hb)
   ·rcases hb with hb | hb
    ·exact h.heap.lt b hb
    ·exact (hrow.blkLt hb).1
   ·have t' := h.trans
    refine ⟨t'.os, t'.tape, t'.output, t'.size, t'.frame, fun b hb => ?_, fun b hb => .inl (t'.roKeep b hb), ?_, fun k hk o hg => ?_, fun k o hg => ?_, t'.le⟩
    ·rcases hb with hb | hb
     ·exact t'.roSub b hb
     ·rcases t'.ownSub b ⟨id, _, hid, rfl, hb⟩ with hc | hc
      ·exact .inr (.inl hc)
      ·exact .inr (.inr hc)
    ·rintro b ⟨k, o, hg, hl, hbk⟩
     obtain ⟨p, h1, _, h3, _⟩ := back k o hg
     exact t'.ownSub b ⟨k, p, h1, h3.trans hl, hbk⟩
    ·obtain ⟨p, h1, _, _, _⟩ := back k o hg
     exact t'.old k hk p h1
    ·obtain ⟨p, h1, _, _, _⟩ := back k o hg
     exact t'.new k p h1
 ·exact Le.refl s

end Go.Av
namespace Go.Av
open Go

def strIt (s : ByteArray) (pos : Nat) : Oth := ⟨fun _ v o => (∃ b, v = .pointer (some ⟨b, 0, none⟩)) ∧ o = .stringIter s pos, fun _ _ _ _ _ h => h, none, fun _ h => by cases h⟩

section
variable {P : Program} {G : Glob} {o : Oper} {s : St}

theorem run_newObj (ob : Obj) (w : World) : (newObj ob).run P w = .ok w.heap.size (w.alloc ob) := rfl
theorem run_getObj_it {w : World} {r : Nat} {b : ByteArray} {p : Nat} (h : w.heap[r]? = some (.stringIter b p)) : (getObj r).run P w = .ok (.stringIter b p) w := by simp [getObj, Sem.run, h]
theorem run_setObj_it {w : World} {r : Nat} {b : ByteArray} {p : Nat} (ob : Obj) (h : w.heap[r]? = some (.stringIter b p)) : (setObj r ob).run P w = .ok () { w with heap := w.heap.setIfInBounds r ob } := by simp [setObj, Sem.run, h]

theorem R_range_str (t : TypeId) (x : Operand) (ho : o.op = .range t x) (ht : P.underlying t = some .string) {b : ByteArray} (hx : aval G s x = .rv (.v (.string b))) (hb : s.base ≤ s.next) :
    OpStep P G o s ({ s with heap := (s.next, .oth (strIt b 0)) :: s.heap, next := s.next + 1 }.put o.dst (.ref s.next)) := by
  intro E a w ⟨β, ro, hr⟩ K Q hK
  unfold Oper.wp
  simp only [execOp, ho, hr.evalV hx, Sem.run_bind, Instr.range, run_underlying ht, Result.andThen_ok, Sem.run_pure]
  have hnone : hget s.heap s.next = none := by
    cases hg : hget s.heap s.next with
    | none => rfl
    | some p => have := hr.trans.new _ _ hg; omega
  have hnew := hr.new (w' := w.alloc (.stringIter b 0)) s.next hnone hb (Nat.le_refl _) (.oth (strIt b 0)) (.pointer (some ⟨w.heap.size, 0, none⟩)) rfl rfl rfl (by simp) (fun b hb => Go.RowKit.Below.heap_alloc w _ b hb) (fun b hb => by simp [blk] at hb; omega) rfl
    (.oth _ w.heap.size (.stringIter b 0) (by rw [upd_same]; rfl) (heap_alloc_new w _) ⟨⟨_, upd_same _ _ _⟩, rfl⟩)
  have hk := hK _ _ ⟨_, ro, hnew.put o.dst (.ref s.next) (.pointer (some ⟨w.heap.size, 0, none⟩)) (.ref _ _ (Nat.lt_succ_self _) fun Φ _ => (upd_same _ _ _).symm)⟩
  rw [run_newObj]
  exact hk

theorem R_next_end (x : Operand) (ho : o.op = .next x true) {id : Nat} (hx : aval G s x = .ref id) {b : ByteArray} {pos : Nat} (hid : hget s.heap id = some (.oth (strIt b pos))) (hp : b.size ≤ pos) :
    VStep P G o s (.tuple [.rv (.v (.bool false))]) :=
  fun E a w β ro hr => by
    have hO := hr.heap.objs id _ hid
    cases hO with
    | oth _ bl ob h1 h2 h3 =>
      obtain ⟨⟨b', hb'⟩, rfl⟩ := h3
      have hev := hr.eval x
      rw [hx] at hev
      generalize he : a.eval x = c at hev
      cases hev with
      | ref _ _ _ hc =>
        have hcv := hc _ hid
        rw [hb'] at h1 hcv
        simp only [blk, Option.some.injEq] at h1
        subst h1
        refine ⟨.tuple #[.bool false], ?_, .tuple _ _ rfl fun j y hj => ?_⟩
        · have hn : ¬ pos < b.size := by omega
          rw [hcv] at he
          simp [execOp, ho, he, Instr.next, run_getObj_it h2, hn]
        · cases j with
          | zero => simp at hj; subst hj; exact .ofV rfl
          | succ j => simp at hj

theorem R_next (x : Operand) (ho : o.op = .next x true) {id : Nat} (hx : aval G s x = .ref id) {b : ByteArray} {pos : Nat} (hid : hget s.heap id = some (.oth (strIt b pos))) (hp : pos < b.size) {c k : Nat} (hd : Utf8.decode b pos = (c, k)) :
    OpStep P G o s ({ s with heap := hset s.heap id (.oth (strIt b (pos + k))) }.put o.dst (.tuple [.rv (.v (.bool true)), .rv (.v (.int .i64 (pos : Int))), .rv (.v (.int .i32 (c : Int)))])) := by
  intro E a w ⟨β, ro, hr⟩ K Q hK
  have hO := hr.heap.objs id _ hid
  cases hO with
  | oth _ bl ob h1 h2 h3 =>
    obtain ⟨⟨b', hb'⟩, rfl⟩ := h3
    have hev := hr.eval x
    rw [hx] at hev
    generalize he : a.eval x = cv at hev
    cases hev with
    | ref _ _ _ hc =>
      have hcv := hc _ hid
      have hb2 := h1
      rw [hb'] at h1 hcv
      simp only [blk, Option.some.injEq] at h1
      subst h1
      rw [hcv] at he
      unfold Oper.wp
      have hrun : (execOp a.eval o).run P w = .ok (.value (.tuple #[.bool true, goInt pos, .int .i32 c])) { w with heap := w.heap.setIfInBounds b' (.stringIter b (pos + k)) } := by
        simp [execOp, ho, he, Instr.next, run_getObj_it h2, hp, hd, run_setObj_it _ h2]
      rw [hrun]
      have hlt := (Array.getElem?_eq_some_iff.1 h2).1
      have hw := hr.write (w' := { w with heap := w.heap.setIfInBounds b' (.stringIter b (pos + k)) }) id _ (.oth (strIt b (pos + k))) hid rfl rfl (.inr (.inr ⟨_, _, rfl, rfl⟩)) rfl rfl rfl (by simp) (fun j hj hne => by
        have : b' ≠ j := fun e => hne (by rw [hb', ← e]; rfl)
        simp [Array.getElem?_setIfInBounds_ne this]) (.oth _ b' (.stringIter b (pos + k)) hb2 (by simp [hlt]) ⟨⟨b', hb'⟩, rfl⟩)
      refine hK _ _ ⟨β, ro, hw.put o.dst _ _ (.tuple _ _ rfl fun j y hj => ?_)⟩
      match j, hj with
      | 0, hj => simp at hj; subst hj; exact .ofV rfl
      | 1, hj => simp at hj; subst hj; exact .ofV rfl
      | 2, hj => simp at hj; subst hj; exact .ofV rfl
      | j + 3, hj => simp at hj
end
end Go.Av
namespace Go.Av
open Go

section
variable {P : Program} {G : Glob} {o : Oper} {s : St} {E : Entry} {a : Act} {w w' : World} {β : Nat → Value} {ro ro' : Nat → Prop}

theorem RelAt.grow (h : RelAt E G s a w β ro) (hos : w'.os = w.os) (htape : w'.tape = w.tape) (hout : w'.output = w.output) (hsz : w.heap.size ≤ w'.heap.size) (hw : ∀ b, b < w.heap.size → w'.heap[b]? = w.heap[b]?)
    (hro : ∀ b, ro b → ro' b) (hnew : ∀ b, ro' b → ro b ∨ (w.heap.size ≤ b ∧ b < w'.heap.size)) : RelAt E G s a w' β ro' := by
  have hk : ∀ b, ro b → w'.heap[b]? = w.heap[b]? := fun b hb => hw b (h.heap.lt b hb)
  refine ⟨h.defers, h.size, fun i x hx => (h.slot i x hx).keep hk hro (Nat.le_refl _) (fun _ t cs hg => ⟨rfl, t, cs, hg⟩) (fun _ z t _ es hg => ⟨rfl, z, t, es, hg⟩) (fun _ Φ hg => ⟨rfl, Φ, hg⟩),
    ⟨fun id ob hg => (h.heap.objs id ob hg).keep hk hro (Nat.le_refl _) hsz rfl (fun hl b hb => hw b ((h.heap.objs id ob hg).blkLt hl hb)) (fun _ t cs hg => ⟨rfl, t, cs, hg⟩) (fun _ z t _ es hg => ⟨rfl, z, t, es, hg⟩) (fun _ Φ hg => ⟨rfl, Φ, hg⟩), h.heap.inj, fun b hb ho => ?_, fun b hb => ?_⟩,
    h.glob.keep hk hro, ?_, h.base⟩
  · rcases hnew b hb with h1 | ⟨h1, _⟩
    · exact h.heap.disj b h1 ho
    · obtain ⟨id, ob, hg, hl, hb'⟩ := ho
      have := (h.heap.objs id ob hg).blkLt hl hb'
      omega
  · rcases hnew b hb with h1 | ⟨_, h1⟩
    · exact Nat.lt_of_lt_of_le (h.heap.lt b h1) hsz
    · exact h1
  · have t := h.trans
    refine ⟨hos.trans t.os, htape.trans t.tape, hout.trans t.output, Nat.le_trans t.size hsz, fun b hb hn => (hw b (Nat.lt_of_lt_of_le hb t.size)).trans (t.frame b hb hn), fun b hb => ?_, fun b hb => hro b (t.roKeep b hb), t.ownSub, t.old, t.new, t.le⟩
    rcases hnew b hb with h1 | ⟨h1, _⟩
    · exact t.roSub b h1
    · exact .inr (.inr (Nat.le_trans t.size h1))

theorem OpStep.newRO {t : TypeId} {n : Nat} {es : List (List RV)} (hh : NRow P G o s t n es) : OpStep P G o s (s.put o.dst (.rv (.sl n es))) := by
 obtain ⟨hn, h⟩ := hh
 intro E a w ⟨β, ro, hr⟩ K Q hK
 obtain ⟨v, xs, w', hrun, hown, hgr, hblk, hcells⟩ := h E a w β ro hr
 unfold Oper.wp
 rw [hrun]
 have hw : ∀ b, b < w.heap.size → w'.heap[b]? = w.heap[b]? := fun b hb => hgr.block b hb (by simp)
 have hrow : RowIs w' t n v es.length xs := .of_owns hown
 have hg := hr.grow (ro' := fun b => ro b ∨ blk v = some b) hgr.os hgr.tape hgr.output hgr.size hw (fun _ h => .inl h) (fun b hb => by
  rcases hb with h | h
  ·exact .inl h
  ·exact .inr ⟨hblk b h, (hrow.blkLt h).1⟩)
 exact hK _ _ ⟨β, _, hg.put o.dst _ _ (.rv _ _ (hrow.asRV hn (fun j x hj => (hcells j x hj).keep (fun b hb => hw b (hr.heap.lt b hb)) fun _ h => .inl h) fun b hb => .inr hb))⟩

mutual
theorem pure_shift (d : Nat) : ∀ (x : AV), pureA x = true → shiftA d x = x ∧ belowA 0 x = true
 | .rv _, _ => ⟨rfl, rfl⟩
 | .agg cs, h => by
  have := pure_shiftL d cs (by simpa [pureA] using h)
  exact ⟨by simp [shiftA, this.1], by simpa [belowA] using this.2⟩
 | .tuple cs, h => by
  have := pure_shiftL d cs (by simpa [pureA] using h)
  exact ⟨by simp [shiftA, this.1], by simpa [belowA] using this.2⟩
 | .fn f p q, h => by
  simp only [pureA, Bool.and_eq_true] at h
  have h1 := pure_shiftL d p h.1
  have h2 := pure_shiftL d q h.2
  exact ⟨by simp [shiftA, h1.1, h2.1], by simp [belowA, h1.2, h2.2]⟩
 | .top, _ => ⟨rfl, rfl⟩
 | .ptr _ _, h => by simp [pureA] at h
 | .bsl _ _, h => by simp [pureA] at h
 | .eptr _ _ _, h => by simp [pureA] at h
 | .sl _, h => by simp [pureA] at h
 | .ref _, h => by simp [pureA] at h
theorem pure_shiftL (d : Nat) : ∀ (l : List AV), pureL l = true → shiftL d l = l ∧ belowL 0 l = true
 | [], _ => ⟨rfl, rfl⟩
 | x :: r, h => by
  simp only [pureL, Bool.and_eq_true] at h
  have h1 := pure_shift d x h.1
  have h2 := pure_shiftL d r h.2
  exact ⟨by simp [shiftL, h1.1, h2.1], by simp [belowL, h1.2, h2.2]⟩
end

theorem OpStep.callP {x : Operand} {xs : Array Operand} {ts : Array TypeId} (ho : o.op = .call { callee := .value x, args := xs, argTypes := ts }) {f : FuncId} (hx : aval G s x = .fn (.func f) [] [])
    (hcb : callable P f = true) {args : List AV} (hargs : xs.toList.map (fun y => viewA s.heap (aval G s y)) = args) (hpure : pureL args = true) {r : AV} (hc : ACalls P G f args [] 0 fun r1 τ => r1 = r ∧ τ = []) (hr : pureA r = true) (hb : s.base ≤ s.next) :
    OpStep P G o s (s.put o.dst r) := by
  obtain ⟨hsh, hbel⟩ := pure_shift s.next r hr
  have := OpStep.call (K := 0) ho hx hcb hargs hpure hc (fun _ _ h => h) hbel rfl hb
  rw [hsh] at this
  exact this

def maskF (ks : List Nat) (l : List AV) : List AV := l.mapIdx fun i x => if ks.contains i then x else .top

theorem maskF_at (ks : List Nat) (l : List AV) (i : Nat) : (maskF ks l)[i]? = (l[i]?).map fun x => if ks.contains i then x else .top := by
 simp [maskF]

theorem RelAt.mask (h : RelAt E G s a w β ro) (ks : List Nat) : RelAt E G { s with slots := maskF ks s.slots } a w β ro := by
 refine ⟨h.defers, by simp [maskF, h.size], fun i x hx => ?_, h.heap, h.glob, h.trans, h.base⟩
 simp only [maskF_at] at hx
 cases hi : s.slots[i]? with
 | none => simp [hi] at hx
 | some y =>
  simp only [hi, Option.map_some, Option.some.injEq] at hx
  split at hx
  ·subst hx; exact h.slot i y hi
  ·subst hx; exact .top _

def DStep (P : Program) (G : Glob) (ops : Array Oper) (s0 : St) (T : List AV) (o : Oper) (v : AV) : Prop :=
 ∀ s : St, s.heap = s0.heap → s.next = s0.next → s.base = s0.base → s.slots.length = T.length → (∀ t ∈ o.looksAt ops, s.slots[t]? = T[t]?) →
  (gwant ops s o = some true ∧ OpStep P G o s (s.put o.dst v)) ∨ (gwant ops s o = some false ∧ v = .tuple [])

theorem mask_eq {ks : List Nat} {l l' : List AV} (hlen : l.length = l'.length) (h : ∀ t ∈ ks, l[t]? = l'[t]?) : maskF ks l = maskF ks l' := by
 apply List.ext_getElem?
 intro i
 rw [maskF_at, maskF_at]
 by_cases hi : i ∈ ks
 ·rw [h i hi]
 ·have hc : ks.contains i = false := by simpa using hi
  simp only [hc]
  by_cases hl : i < l.length
  ·rw [List.getElem?_eq_getElem hl, List.getElem?_eq_getElem (by omega)]; rfl
  ·rw [List.getElem?_eq_none (by omega), List.getElem?_eq_none (by omega)]

theorem gwant_mask {ops : Array Oper} {ks : List Nat} (hk : ∀ j b, o.guard = some (j, b) → ∀ d, gslot ops j = some d → d ∈ ks) : gwant ops { s with slots := maskF ks s.slots } o = gwant ops s o := by
 unfold gwant
 cases hg : o.guard with
 | none => rfl
 | some jb =>
  obtain ⟨j, b⟩ := jb
  simp only
  cases hd : gslot ops j with
  | none => rfl
  | some d =>
   have hm : ks.contains d = true := by simpa using hk j b hg d hd
   simp only [maskF_at]
   cases hs : s.slots[d]? with
   | none => simp
   | some x => simp only [Option.map_some, hm, if_true]

theorem looks_guard {ops : Array Oper} (j : Nat) (b : Bool) (hg : o.guard = some (j, b)) (d : Nat) (hd : gslot ops j = some d) : d ∈ o.looksAt ops := by
 unfold gslot at hd
 simp [Oper.looksAt, hg, hd]

theorem DStep.val {ops : Array Oper} {s0 : St} {T : List AV} {v : AV} (hg : gwant ops ⟨maskF (o.looksAt ops) T, s0.heap, s0.next, s0.base⟩ o = some true) (hv : vstep P G o ⟨maskF (o.looksAt ops) T, s0.heap, s0.next, s0.base⟩ = some v) : DStep P G ops s0 T o v := by
 intro s h1 h2 h3 hlen hag
 have hm := mask_eq hlen hag
 have hst : ({ s with slots := maskF (o.looksAt ops) s.slots } : St) = ⟨maskF (o.looksAt ops) T, s0.heap, s0.next, s0.base⟩ := by rw [hm, ← h1, ← h2, ← h3]
 refine .inl ⟨by rw [← gwant_mask (ks := o.looksAt ops) looks_guard, hst]; exact hg, VStep.step fun E a w β ro hr => ?_⟩
 have hr' := hr.mask (o.looksAt ops)
 rw [hst] at hr'
 have := vstep_sound hv E a w β ro hr'
 simpa only [h1, h2] using this

theorem aval_mask {ks : List Nat} {y : Operand} (hy : ∀ t, y = .tmp t → t ∈ ks) : aval G { s with slots := maskF ks s.slots } y = aval G s y := by
 cases y with
 | tmp t =>
  have hm : ks.contains t = true := by simpa using hy t rfl
  simp only [aval, List.getD, maskF_at]
  cases hs : s.slots[t]? with
  | none => rfl
  | some x => simp only [Option.map_some, hm, if_true]
 | _ => rfl

theorem DStep.of {ops : Array Oper} {s0 : St} {T : List AV} {v : AV} (hg : gwant ops ⟨maskF (o.looksAt ops) T, s0.heap, s0.next, s0.base⟩ o = some true)
    (h : ∀ s : St, s.heap = s0.heap → s.next = s0.next → s.base = s0.base → (∀ y : Operand, (∀ t, y = .tmp t → t ∈ o.looksAt ops) → aval G s y = aval G ⟨maskF (o.looksAt ops) T, s0.heap, s0.next, s0.base⟩ y) → OpStep P G o s (s.put o.dst v)) : DStep P G ops s0 T o v := by
  intro s h1 h2 h3 hlen hag
  have hm := mask_eq hlen hag
  have hst : ({ s with slots := maskF (o.looksAt ops) s.slots } : St) = ⟨maskF (o.looksAt ops) T, s0.heap, s0.next, s0.base⟩ := by rw [hm, ← h1, ← h2, ← h3]
  refine .inl ⟨by rw [← gwant_mask (ks := o.looksAt ops) looks_guard, hst]; exact hg, h s h1 h2 h3 fun y hy => ?_⟩
  rw [← hst]
  exact (aval_mask hy).symm
end
end Go.Av
namespace Go.Av
open Go

def Lk (l : List Oper) (vals : List AV) (T0 : List AV) (E : Nat → Prop) (T : List AV) : Prop :=
 T.length = T0.length ∧ ∀ t, t < T0.length → ((∀ j o, l[j]? = some o → E j → o.dst ≠ some t) → T[t]? = T0[t]?) ∧ (∀ j o, l[j]? = some o → E j → o.dst = some t → T[t]? = vals[j]?)

theorem Lk.same {l : List Oper} {vals T0 T T' : List AV} {E E' : Nat → Prop} (h : Lk l vals T0 E T) (h' : Lk l vals T0 E' T') (t : Nat) (he : ∀ j o, l[j]? = some o → o.dst = some t → (E j ↔ E' j)) : T[t]? = T'[t]? := by
 by_cases ht : t < T0.length
 ·by_cases hx : ∃ j o, l[j]? = some o ∧ E j ∧ o.dst = some t
  ·obtain ⟨j, o, h1, h2, h3⟩ := hx
   rw [(h.2 t ht).2 j o h1 h2 h3, (h'.2 t ht).2 j o h1 ((he j o h1 h3).1 h2) h3]
  ·have e1 : ∀ j o, l[j]? = some o → E j → o.dst ≠ some t := fun j o h1 h2 h3 => hx ⟨j, o, h1, h2, h3⟩
   have e2 : ∀ j o, l[j]? = some o → E' j → o.dst ≠ some t := fun j o h1 h2 h3 => hx ⟨j, o, h1, (he j o h1 h3).2 h2, h3⟩
   rw [(h.2 t ht).1 e1, (h'.2 t ht).1 e2]
 ·rw [List.getElem?_eq_none (by have := h.1; omega), List.getElem?_eq_none (by have := h'.1; omega)]

def putL (T : List AV) (dst : Option Nat) (v : AV) : List AV :=
 match dst with
 | some d => T.set d v
 | none => T

theorem putL_length (T : List AV) (dst : Option Nat) (v : AV) : (putL T dst v).length = T.length := by
 cases dst <;> simp [putL]

theorem Lk.put {l : List Oper} {vals T0 T : List AV} {E : Nat → Prop} (h : Lk l vals T0 E T) {i : Nat} {o : Oper} {v : AV} (hi : l[i]? = some o) (hv : vals[i]? = some v)
    (hd : ∀ j p, l[j]? = some p → E j → p.dst ≠ none → p.dst ≠ o.dst) {E' : Nat → Prop} (hE : ∀ j, E' j ↔ E j ∨ j = i) : Lk l vals T0 E' (putL T o.dst v) := by
  refine ⟨by rw [putL_length]; exact h.1, fun t ht => ⟨fun hn => ?_, fun j p hj hEj hp => ?_⟩⟩
  · have h1 := (h.2 t ht).1 fun j p hj hEj => hn j p hj ((hE j).2 (.inl hEj))
    cases hdst : o.dst with
    | none => exact h1
    | some d =>
      have hne : d ≠ t := fun e => hn i o hi ((hE i).2 (.inr rfl)) (by rw [hdst, e])
      simp only [putL]
      rw [List.getElem?_set_ne hne]
      exact h1
  · rcases (hE j).1 hEj with h1 | h1
    · have h2 := (h.2 t ht).2 j p hj h1 hp
      cases hdst : o.dst with
      | none => exact h2
      | some d =>
        have hne : d ≠ t := fun e => hd j p hj h1 (by rw [hp]; simp) (by rw [hp, hdst, e])
        simp only [putL]
        rw [List.getElem?_set_ne hne]
        exact h2
    · subst h1
      rw [hi] at hj
      simp only [Option.some.injEq] at hj
      subst hj
      rw [hp]
      simp only [putL]
      rw [List.getElem?_set_self (by have := h.1; omega), hv]

section
variable {P : Program} {G : Glob} {s0 : St}

abbrev lookS (ops : Array Oper) (s0 : St) (T : List AV) (o : Oper) : St := ⟨maskF (o.looksAt ops) T, s0.heap, s0.next, s0.base⟩

theorem DStep.row {ops : Array Oper} {T : List AV} {o : Oper} {t n : Nat} {es : List (List RV)} (hg : gwant ops (lookS ops s0 T o) o = some true) (h : NRow P G o (lookS ops s0 T o) t n es) : DStep P G ops s0 T o (.rv (.sl n es)) := by
 intro s h1 h2 h3 hlen hag
 have hm := mask_eq hlen hag
 have hst : ({ s with slots := maskF (o.looksAt ops) s.slots } : St) = lookS ops s0 T o := by rw [hm, h1, h2, h3]
 refine .inl ⟨by rw [← gwant_mask (ks := o.looksAt ops) looks_guard, hst]; exact hg, OpStep.newRO (t := t) ⟨h.1, fun E a w β ro hr => ?_⟩⟩
 have hr' := hr.mask (o.looksAt ops)
 rw [hst] at hr'
 exact h.2 E a w β ro hr'

theorem DStep.call {ops : Array Oper} {T : List AV} {o : Oper} {x : Operand} {xs : Array Operand} {ts : Array TypeId} (ho : o.op = .call { callee := .value x, args := xs, argTypes := ts }) (hg : gwant ops (lookS ops s0 T o) o = some true) {f : FuncId}
    (hx : aval G (lookS ops s0 T o) x = .fn (.func f) [] []) (hcb : callable P f = true) {args : List AV} (hargs : xs.toList.map (fun y => viewA s0.heap (aval G (lookS ops s0 T o) y)) = args) (hpure : pureL args = true) {r : AV}
    (hc : ACalls P G f args [] 0 fun r1 τ => r1 = r ∧ τ = []) (hr : pureA r = true) (hb : s0.base ≤ s0.next) : DStep P G ops s0 T o r := by
  refine DStep.of hg fun s h1 h2 h3 hy => ?_
  have hops : ∀ y : Operand, (y = x ∨ y ∈ xs) → ∀ t, y = .tmp t → t ∈ o.looksAt ops := by
    intro y hy t ht
    subst ht
    refine List.mem_append_left _ (List.mem_filterMap.2 ⟨.tmp t, ?_, rfl⟩)
    rw [ho]
    simp only [Op.operands, Call.operands]
    rcases hy with h | h
    · rw [← h]; simp
    · simp [h]
  refine OpStep.callP ho (by rw [hy x (hops x (.inl rfl))]; exact hx) hcb (args := args) ?_ hpure hc hr (by rw [h2, h3]; exact hb)
  rw [← hargs]
  apply List.map_congr_left
  intro y hm
  rw [h1, hy y (hops y (.inr (by simpa using hm)))]

theorem DStep.cast {ops : Array Oper} {T : List AV} {o : Oper} {v v' : AV} (h : DStep P G ops s0 T o v) (e : v = v') : DStep P G ops s0 T o v' := e ▸ h
end
end Go.Av
namespace Go.Av
open Go

section
variable {P : Program} {G : Glob} {o : Oper} {s : St}

def bsType (P : Program) (t : TypeId) : Option (TypeId × Nat × List Value) :=
 match P.underlying t with
 | some (.slice e) => match P.info? e, zeroCells P e with
  | some i, some zs => if zs.all Value.oneCell' ∧ zs.length = i.size ∧ 0 < i.size then some (e, i.size, zs) else none
  | _, _ => none
 | _ => none

def bsRow (P : Program) (G : Glob) (s : St) (t : TypeId) (len : Nat) (parts : List (Nat × Operand)) : Option (TypeId × Nat × List (List RV)) :=
 match bsType P t with
 | some (e, n, zs) =>
  if len = 0 then (if parts.isEmpty then some (e, n, []) else none)
  else if len * n ≤ 16777216 ∧ (parts.map fun p => (p.1, aval G s p.2)).all (fun p => (vcells p.2).all (cellOkIn s.heap)) then
   match afill (fun i => some (i * n, n)) ((List.replicate len (zs.map fun z => AV.rv (.v z))).flatten) (parts.map fun p => (p.1, aval G s p.2)) with
   | some ds => match rvs ds with
    | some rs => some (e, n, chunk n len rs)
    | none => none
   | none => none
  else none
 | none => none

theorem R_buildSliceC {t : TypeId} {len : Nat} {parts : Array (Nat × Operand)} (ho : o.op = .buildSlice t len parts) {e n : Nat} {es : List (List RV)} (h : bsRow P G s t len parts.toList = some (e, n, es)) : NRow P G o s e n es := by
 unfold bsRow at h
 split at h
 ·rename_i e' n' zs ht
  unfold bsType at ht
  split at ht
  ·rename_i e2 hu
   split at ht
   ·rename_i i zs2 hi hz
    split at ht
    ·rename_i hc
     simp only [Option.some.injEq, Prod.mk.injEq] at ht
     obtain ⟨rfl, rfl, rfl⟩ := ht
     split at h
     ·rename_i hlen
      subst hlen
      split at h
      ·rename_i hp
       simp only [Option.some.injEq, Prod.mk.injEq] at h
       obtain ⟨rfl, rfl, rfl⟩ := h
       refine ⟨by simp, fun E a w β ro hr => ⟨.slice (some ⟨w.heap.size, 0, none⟩) 0 0, [], w.alloc (.cells #[] e2), ?_, ?_, World.grownBy_alloc w _ none, fun b hb => by simp [blk] at hb, by simp⟩⟩
       ·have hp' : parts = #[] := by
         apply Array.ext'
         simpa using hp
        subst hp'
        simp [execOp, ho, Instr.buildSlice, run_underlying hu, sizeOf, typeInfo, hi, Instr.fill, newRow, Sem.run_bind, Array.range_zero']
       ·exact World.ownsRow_lit w #[] 0 (Nat.zero_le _) (Nat.zero_le _) (by simp)
      ·cases h
     ·rename_i hlen
      split at h
      ·rename_i hc2
       split at h
       ·rename_i ds hf
        split at h
        ·rename_i rs hrs
         simp only [Option.some.injEq, Prod.mk.injEq] at h
         obtain ⟨rfl, rfl, rfl⟩ := h
         have hpos : 0 < len * i.size := Nat.mul_pos (Nat.pos_of_ne_zero hlen) hc.2.2
         exact R_buildSlice t len parts ho hu (by simp [hi]) hz hc.1 hc.2.1 ⟨hpos, hc2.1⟩ rfl hc2.2 hf hrs
        ·cases h
       ·cases h
      ·cases h
    ·cases ht
   ·cases ht
  ·cases ht
 ·cases h

end

theorem wrap_nat {k : Nat} (h : k + 1 ≤ 9223372036854775807) : IntKind.i64.wrap ((k : Int) + 1) = ((k + 1 : Nat) : Int) := by
 rw [wrap64_of _ (by omega) (by omega)]
 rfl
end Go.Av
namespace Go.Av
open Go


def nilV (m : Option Nat) : AV → AV
 | .rv (.v (.slice none 0 0)) => match m with
  | some n => .rv (.sl n [])
  | none => .rv (.v (.slice none 0 0))
 | x => x
def nilsL : List (Option Nat) → List AV → List AV
 | m :: ms, c :: cs => nilV m c :: nilsL ms cs
 | _, cs => cs
def nilsA (m : List (Option Nat)) : AV → AV
 | .agg cs => .agg (nilsL m cs)
 | x => nilV (m.headD none) x
def St.nils (s : St) (k : Nat) (m : List (Option Nat)) : St :=
 { s with slots := match s.slots[k]? with | some x => s.slots.set k (nilsA m x) | none => s.slots }

theorem nilV_rel {w : World} {ro : Nat → Prop} {σ : Heap} {β : Nat → Value} {N : Nat} {m : Option Nat} {x : AV} {c : Value} (h : ARel w ro σ β N x c) : ARel w ro σ β N (nilV m x) c := by
 unfold nilV
 split
 ·cases m with
  | none => exact h
  | some n =>
   refine .rv _ _ ?_
   cases h with
   | rv _ _ h =>
    cases h
    exact .sl n [] none 0 (fun _ => undef) (Nat.le_refl _) (Nat.zero_le _) (by simp) (by simp) (by simp)
 ·exact h
theorem nilsL_at {m : List (Option Nat)} {cs : List AV} {j : Nat} {x : AV} (h : (nilsL m cs)[j]? = some x) : ∃ y p, cs[j]? = some y ∧ x = nilV p y := by
 induction m generalizing cs j with
 | nil => exact ⟨x, none, by simpa [nilsL] using h, by unfold nilV; split <;> rfl⟩
 | cons a m ih =>
  cases cs with
  | nil => simp [nilsL] at h
  | cons c cs =>
   cases j with
   | zero => simp [nilsL] at h; exact ⟨c, a, rfl, h.symm⟩
   | succ j => simp only [nilsL, List.getElem?_cons_succ] at h ⊢; exact ih h
theorem nilsL_length (m : List (Option Nat)) (cs : List AV) : (nilsL m cs).length = cs.length := by
 induction m generalizing cs with
 | nil => rfl
 | cons a m ih => cases cs <;> simp [nilsL, ih]
theorem nilsA_rel {w : World} {ro : Nat → Prop} {σ : Heap} {β : Nat → Value} {N : Nat} {m : List (Option Nat)} {x : AV} {c : Value} (h : ARel w ro σ β N x c) : ARel w ro σ β N (nilsA m x) c := by
 unfold nilsA
 split
 ·cases h with
  | agg cs c h1 h2 =>
   refine .agg _ _ (by rw [h1, nilsL_length]) fun j y hj => ?_
   obtain ⟨z, p, hz, rfl⟩ := nilsL_at hj
   exact nilV_rel (h2 j z hz)
 ·exact nilV_rel h
theorem Le.nils {s s' : St} (k : Nat) (m : List (Option Nat)) (h : s.nils k m = s') : Le s s' := by
 subst h
 intro E G a w ⟨β, ro, h⟩
 unfold St.nils
 cases hk : s.slots[k]? with
 | none => exact ⟨β, ro, h⟩
 | some x =>
  refine ⟨β, ro, h.defers, by simp [h.size], fun i y hy => ?_, h.heap, h.glob, h.trans, h.base⟩
  rw [List.getElem?_set] at hy
  split at hy
  ·rename_i e
   subst e
   split at hy
   ·simp only [Option.some.injEq] at hy
    subst hy
    exact nilsA_rel (h.slot k x hk)
   ·cases hy
  ·exact h.slot i y hy

end Go.Av
namespace Go.Av
open Go

theorem Le.nilRow {s s' : St} (k e n : Nat) (hk : s.slots[k]? = some (.rv (.v (.slice none 0 0)))) (hb : s.base ≤ s.next)
    (h : ({ s with slots := s.slots.set k (.sl s.next), heap := (s.next, .row false e n []) :: s.heap, next := s.next + 1 } : St) = s') : Le s s' := by
  subst h
  intro E G a w ⟨β, ro, hr⟩
  have hnone : hget s.heap s.next = none := by
    cases hg : hget s.heap s.next with
    | none => rfl
    | some p => have := hr.trans.new _ _ hg; omega
  have hval := ARel.val (hr.slot k _ hk)
  have hnew := hr.new (w' := w) s.next hnone hb (Nat.le_refl _) (.row false e n []) (.slice none 0 0) rfl rfl rfl (Nat.le_refl _) (fun _ _ => rfl) (fun c hc => by simp [blk] at hc) rfl
    (.row e n [] [] (by rw [upd_same]; exact ⟨by simp, .inl ⟨⟨none, rfl, fun _ h => (by cases h)⟩, rfl⟩⟩) (by simp) (by simp))
  refine ⟨_, ro, hnew.defers, by simpa using hnew.size, fun i y hy => ?_, hnew.heap, hnew.glob, hnew.trans, hnew.base⟩
  rw [List.getElem?_set] at hy
  split at hy
  · rename_i e1
    subst e1
    split at hy
    · simp only [Option.some.injEq] at hy
      subst hy
      refine .sl _ _ (Nat.lt_succ_self _) fun z t' n' es' _ => ?_
      rw [hval]
      exact (upd_same _ _ _).symm
    · cases hy
  · exact hnew.slot i y hy
end Go.Av
namespace Go.Av
open Go

def lendV (σ : Heap) : AV → Option RV
 | .rv x => some x
 | .sl id => match hget σ id with
  | some (.row _ _ n es) => some (.sl n es)
  | _ => none
 | .ref id => match hget σ id with
  | some (.oth Φ) => Φ.view
  | _ => none
 | _ => none
def lendVs (σ : Heap) : List AV → Option (List RV)
 | [] => some []
 | x :: r => match lendV σ x, lendVs σ r with
  | some y, some l => some (y :: l)
  | _, _ => none
mutual
def lendA (σ : Heap) : AV → AV
 | .sl id => match hget σ id with
  | some (.row _ _ n es) => .rv (.sl n es)
  | _ => .sl id
 | .ptr id off => match hget σ id with
  | some (.box _ cs) => (match lendVs σ (cs.drop off) with
   | some l => .rv (.ptr l)
   | none => .ptr id off)
  | _ => .ptr id off
 | .agg cs => .agg (lendL σ cs)
 | .tuple cs => .tuple (lendL σ cs)
 | .fn f p q => .fn f (lendL σ p) (lendL σ q)
 | .rv x => .rv x
 | .eptr id i off => .eptr id i off
 | .bsl id n => .bsl id n
 | .ref id => match hget σ id with
  | some (.oth Φ) => (match Φ.view with
   | some x => .rv x
   | none => .ref id)
  | _ => .ref id
 | .top => .top
def lendL (σ : Heap) : List AV → List AV
 | [] => []
 | x :: r => lendA σ x :: lendL σ r
end
theorem lendL_length (σ : Heap) : ∀ (l : List AV), (lendL σ l).length = l.length
 | [] => rfl
 | x :: r => by simp [lendL, lendL_length σ r]
theorem lendL_at (σ : Heap) : ∀ {l : List AV} {j : Nat} {x : AV}, (lendL σ l)[j]? = some x → ∃ y, l[j]? = some y ∧ x = lendA σ y
 | [], j, x, h => by simp [lendL] at h
 | y :: r, j, x, h => by
  cases j with
  | zero => simp [lendL] at h; exact ⟨y, by simp, h.symm⟩
  | succ j => simp [lendL] at h; simpa using lendL_at σ h
theorem lendVs_at (σ : Heap) : ∀ {l : List AV} {m : List RV}, lendVs σ l = some m → ∀ {j : Nat} {x : RV}, m[j]? = some x → ∃ y, l[j]? = some y ∧ lendV σ y = some x
 | [], m, h, j, x, hj => by simp [lendVs] at h; subst h; simp at hj
 | y :: r, m, h, j, x, hj => by
  simp only [lendVs] at h
  split at h
  ·rename_i z l h1 h2
   simp only [Option.some.injEq] at h
   subst h
   cases j with
   | zero => simp at hj; subst hj; exact ⟨y, rfl, h1⟩
   | succ j => simp at hj; simpa using lendVs_at σ h2 hj
  ·cases h

abbrev lent (ro : Nat → Prop) (σ : Heap) (β : Nat → Value) : Nat → Prop := fun b => ro b ∨ Own σ β b

theorem lend_row {w : World} {ro : Nat → Prop} {σ : Heap} {β : Nat → Value} {N id : Nat} (hh : HRel w ro σ β N) {z : Bool} {t : TypeId} {n : Nat} {es : List (List RV)} (hg : hget σ id = some (.row z t n es)) : RRel w (lent ro σ β) (.sl n es) (β id) := by
 have ho := hh.objs id _ hg
 cases ho with
 | row t n es xs h1 h2 h3 => exact h1.asRV h2 (fun j x hj => (h3 j x hj).keep (fun _ _ => rfl) fun _ h => .inl h) fun b hb => .inr ⟨id, _, hg, rfl, hb⟩
 | fro t n es h1 => exact h1.keep (fun _ _ => rfl) fun _ h => .inl h
theorem lend_oth {w : World} {ro : Nat → Prop} {σ : Heap} {β : Nat → Value} {N id : Nat} (hh : HRel w ro σ β N) {Φ : Oth} (hg : hget σ id = some (.oth Φ)) {rv : RV} (hv : Φ.view = some rv) : RRel w (lent ro σ β) rv (β id) := by
 have ho := hh.objs id _ hg
 cases ho with
 | oth _ b o h1 h2 h3 => exact Φ.viewOk rv hv w ro _ _ o b h3 h1 h2 (fun _ h => .inl h) (.inr ⟨id, _, hg, rfl, h1⟩)
theorem lendV_rel {w : World} {ro : Nat → Prop} {σ : Heap} {β : Nat → Value} {N : Nat} (hh : HRel w ro σ β N) {x : AV} {c : Value} {y : RV} (h : ARel w ro σ β N x c) (hy : lendV σ x = some y) : RRel w (lent ro σ β) y c := by
 cases h with
 | rv x c hx =>
  simp only [lendV, Option.some.injEq] at hy
  subst hy
  exact hx.keep (fun _ _ => rfl) fun _ h => .inl h
 | sl id c hl hp =>
  simp only [lendV] at hy
  split at hy
  ·rename_i z t n es hg
   simp only [Option.some.injEq] at hy
   subst hy
   rw [hp z t n es hg]
   exact lend_row hh hg
  ·cases hy
 | ref id c hl hp =>
  simp only [lendV] at hy
  split at hy
  ·rename_i Φ hg
   rw [hp Φ hg]
   exact lend_oth hh hg hy
  ·cases hy
 | _ => cases hy

theorem lend_rel {w : World} {ro : Nat → Prop} {σ : Heap} {β : Nat → Value} {N : Nat} (hh : HRel w ro σ β N) {x : AV} {c : Value} (h : ARel w ro σ β N x c) : ARel w (lent ro σ β) σ β N (lendA σ x) c := by
 induction h with
 | sl id c hl hp =>
  simp only [lendA]
  split
  ·rename_i z t n es hg
   rw [hp z t n es hg]
   exact .rv _ _ (lend_row hh hg)
  ·exact .sl id c hl hp
 | ptr id off c hl hp =>
  simp only [lendA]
  split
  ·rename_i t cs hg
   split
   ·rename_i l hlv
    obtain ⟨b, hb, rfl⟩ := hp t cs hg
    have ho := hh.objs id _ hg
    cases ho with
    | box t cs b' arr e1 e2 e3 e4 =>
     rw [hb] at e1
     simp only [Value.pointer.injEq, Option.some.injEq, Addr.mk.injEq, and_true] at e1
     subst e1
     have at_ : ∀ j x, l[j]? = some x → ∃ y, cs[off + j]? = some y ∧ lendV σ y = some x := fun j x hj => by
      obtain ⟨y, h1, h2⟩ := lendVs_at σ hlv hj
      rw [List.getElem?_drop] at h1
      exact ⟨y, h1, h2⟩
     refine .rv _ _ (.ptr l _ (fun j => arr.getD (off + j) undef) (fun j x hj => ?_) fun j x hj => ?_)
     ·obtain ⟨y, h1, _⟩ := at_ j x hj
      refine ⟨.inr ⟨id, _, hg, rfl, by rw [hb]; rfl⟩, ?_⟩
      have hlt : off + j < arr.size := by rw [e3]; exact (List.getElem?_eq_some_iff.1 h1).1
      rw [addLit, cell_of_row w b (off + j) arr t (0, 0) e2]
      simp [hlt]
     ·obtain ⟨y, h1, h2⟩ := at_ j x hj
      exact lendV_rel hh (e4 _ y h1) h2
   ·exact .ptr id off c hl hp
  ·exact .ptr id off c hl hp
 | rv x c h => exact .rv x c (h.keep (fun _ _ => rfl) fun _ h => .inl h)
 | agg cs c h1 _ ih =>
  refine .agg _ c (by rw [lendL_length]; exact h1) fun j x hj => ?_
  obtain ⟨y, hy, rfl⟩ := lendL_at σ hj
  exact ih j y hy
 | tuple cs c h1 _ ih =>
  refine .tuple _ c (by rw [lendL_length]; exact h1) fun j x hj => ?_
  obtain ⟨y, hy, rfl⟩ := lendL_at σ hj
  exact ih j y hy
 | eptr id i off c h1 h2 => exact .eptr id i off c h1 h2
 | bsl id n c h1 h2 => exact .bsl id n c h1 h2
 | fn f p q c d h1 h2 _ _ ih1 ih2 =>
  refine .fn f _ _ c d (by rw [lendL_length]; exact h1) (by rw [lendL_length]; exact h2) (fun j x hj => ?_) (fun j x hj => ?_)
  ·obtain ⟨y, hy, rfl⟩ := lendL_at σ hj
   exact ih1 j y hy
  ·obtain ⟨y, hy, rfl⟩ := lendL_at σ hj
   exact ih2 j y hy
 | ref id c hl hp =>
  simp only [lendA]
  split
  ·rename_i Φ hg
   split
   ·rename_i rv hv
    rw [hp Φ hg]
    exact .rv _ _ (lend_oth hh hg hv)
   ·exact .ref id c hl hp
  ·exact .ref id c hl hp
 | top c => exact .top c

mutual
def scalA : AV → Bool
 | .rv (.v _) => true
 | .agg cs => scalL cs
 | .tuple cs => scalL cs
 | _ => false
def scalL : List AV → Bool
 | [] => true
 | x :: r => scalA x && scalL r
end
theorem scalL_at : ∀ {cs : List AV}, scalL cs = true → ∀ {j : Nat} {x : AV}, cs[j]? = some x → scalA x = true
 | [], _, j, x, h => by simp at h
 | y :: r, hb, j, x, h => by
  simp only [scalL, Bool.and_eq_true] at hb
  cases j with
  | zero => simp at h; subst h; exact hb.1
  | succ j => simp at h; exact scalL_at hb.2 h
theorem scal_rel {w w' : World} {ro ro' : Nat → Prop} {σ τ : Heap} {β γ : Nat → Value} {N M : Nat} {x : AV} {c : Value} (h : ARel w ro σ β N x c) (hp : scalA x = true) : ARel w' ro' τ γ M x c := by
 induction h with
 | rv x c h =>
  cases h with
  | v _ hx => exact .rv _ _ (.v _ hx)
  | ptr => simp [scalA] at hp
  | sl => simp [scalA] at hp
  | mp => simp [scalA] at hp
  | li => simp [scalA] at hp
 | agg cs c h1 _ ih =>
  simp only [scalA] at hp
  exact .agg cs c h1 fun j x hj => ih j x hj (scalL_at hp hj)
 | tuple cs c h1 _ ih =>
  simp only [scalA] at hp
  exact .tuple cs c h1 fun j x hj => ih j x hj (scalL_at hp hj)
 | _ => simp [scalA] at hp

section
variable {P : Program} {G : Glob} {s : St}
theorem OpStep.callB {o : Oper} {x : Operand} {xs : Array Operand} {ts : Array TypeId} (ho : o.op = .call { callee := .value x, args := xs, argTypes := ts }) {f : FuncId} {p q : List AV} (hx : aval G s x = .fn (.func f) p q)
    (hcb : callable P f = true) {args : List AV} (hargs : lendL s.heap (p ++ xs.toList.map (aval G s) ++ q) = args) (hpure : pureL args = true) {r : AV} (hc : ACalls P G f args [] 0 fun r1 τ1 => r1 = r ∧ τ1 = []) (hsc : scalA r = true) :
    OpStep P G o s (s.put o.dst r) := by
  intro E a w ⟨β, ro, h⟩ KK QQ hKK
  have hfx := h.eval x
  rw [hx] at hfx
  generalize he : a.eval x = fv at hfx
  cases hfx with
  | fn _ _ _ c d h1 h2 hp hq =>
    unfold Oper.wp
    simp only [execOp, ho, resolve, he, Deferred.ofValue, Sem.run_bind, Sem.run_pure, Result.andThen_ok, invoke]
    rw [callable_run hcb]
    have ownLt : ∀ b, Own s.heap β b → b < w.heap.size := fun b ⟨k, p, hk, hp, hbk⟩ => (h.heap.objs k p hk).blkLt hp hbk
    have hlen : args.length = p.length + xs.size + q.length := by rw [← hargs, lendL_length]; simp [Nat.add_assoc]
    have hall : ∀ i y, (p ++ xs.toList.map (aval G s) ++ q)[i]? = some y → ARel w ro s.heap β s.next y ((c ++ xs.map a.eval ++ d).getD i undef) := fun i y hy => by
      rw [Array.getD_eq_getD_getElem?]
      rcases Nat.lt_or_ge i (p.length + xs.size) with hi | hi
      · rw [List.getElem?_append_left (by simpa using hi)] at hy
        rw [Array.getElem?_append_left (by simpa [h1] using hi)]
        rcases Nat.lt_or_ge i p.length with hi2 | hi2
        · rw [List.getElem?_append_left hi2] at hy
          rw [Array.getElem?_append_left (by omega), ← Array.getD_eq_getD_getElem?]
          exact hp i y hy
        · rw [List.getElem?_append_right hi2, List.getElem?_map] at hy
          rw [Array.getElem?_append_right (by omega), h1]
          cases hz : xs.toList[i - p.length]? with
          | none => simp [hz] at hy
          | some z =>
            simp only [hz, Option.map_some, Option.some.injEq] at hy
            subst hy
            have hz' : xs[i - p.length]? = some z := by simpa using hz
            simp only [Array.getElem?_map, hz', Option.map_some, Option.getD_some]
            exact h.eval z
      · rw [List.getElem?_append_right (by simpa using hi)] at hy
        rw [Array.getElem?_append_right (by simpa [h1] using hi), ← Array.getD_eq_getD_getElem?]
        have := hq _ y hy
        simpa [h1] using this
    have hcall := hc w β (lent ro s.heap β) (c ++ xs.map a.eval ++ d) (by simp only [Array.size_append, Array.size_map]; omega) (fun i y hy => by
        rw [← hargs] at hy
        obtain ⟨z, hz, rfl⟩ := lendL_at _ hy
        exact pure_rel (lend_rel h.heap (hall i z hz)) (pureL_at hpure (by rw [← hargs]; exact hy))) ⟨by simp [hget], by simp [hget], fun b _ ⟨_, _, hg, _⟩ => by simp [hget] at hg, fun b hb => hb.elim (h.heap.lt b) (ownLt b)⟩
        (h.glob.keep (fun _ _ => rfl) fun _ h => .inl h) (by simp [hget])
    refine Calls.mono hcall fun e w' hq => ?_
    obtain ⟨v, r', τ', β', ro', n', rfl, ⟨rfl, rfl⟩, hrel, hh', ht'⟩ := hq
    have noOwn : ∀ b, ¬ Own ([] : Heap) β b := fun b ⟨_, _, hg, _⟩ => by simp [hget] at hg
    have hframe : ∀ b, b < w.heap.size → w'.heap[b]? = w.heap[b]? := fun b hb => ht'.frame b hb (noOwn b)
    have hg := h.grow (w' := w') (ro' := ro) ht'.os ht'.tape ht'.output ht'.size hframe (fun _ h => h) (fun _ h => .inl h)
    exact hKK _ _ ⟨β, ro, hg.put o.dst _ _ (scal_rel hrel hsc)⟩
theorem R_makeFunc {o : Oper} {f : FuncId} {p q : Array Operand} (ho : o.op = .makeFunc (.func f) p q) : VStep P G o s (.fn (.func f) (p.toList.map (aval G s)) (q.toList.map (aval G s))) :=
 fun _ a w β ro hr => by
  refine ⟨.func (.func f) (p.map a.eval) (q.map a.eval), by simp [execOp, ho, Instr.makeFunc], .fn _ _ _ _ _ (by simp) (by simp) (fun j x hj => ?_) (fun j x hj => ?_)⟩ <;>
  ·rw [List.getElem?_map] at hj
   rw [Array.getD_eq_getD_getElem?, Array.getElem?_map]
   simp only [Array.getElem?_toList] at hj
   obtain ⟨z, hz, rfl⟩ := Option.map_eq_some_iff.1 hj
   simp only [hz, Option.map_some, Option.getD_some]
   exact hr.eval z
end
end Go.Av
namespace Go.Av
open Go

inductive Hint (P : Program) (G : Glob) : Type 1 where
 | run (n : Nat)
 | cast (u v : AV) (h : u = v)
 | idx {α : Type} (C : α → List RV) (l : List α) (n j : Nat) (e : α) (h : l[j]? = some e)
 | idxS (b : ByteArray) (j : Nat) (u : UInt8) (h : b.data.toList[j]? = some u)
 | len {α : Type} (C : α → List RV) (l : List α) (n : Nat)
 | call (f : FuncId) (args : List AV) (r : AV) (τ : Heap) (K : Nat) (h : ACalls P G f args [] 0 fun r1 τ1 => r1 = r ∧ τ1 = τ)
 | take {α : Type} (C : α → List RV) (l : List α) (n k : Nat) (h : k ≤ l.length)
 | cut0 {α : Type} (C : α → List RV) (l : List α) (e n : Nat)
 | app {α : Type} (C : α → List RV) (l m : List α) (id e n bytes : Nat) (h : l.length + m.length ≤ maxLen ∧ (l.length + m.length) * bytes ≤ 140737488355328)
 | mnx (mx : Bool) (a b : Int)
 | lit (e n : Nat) (es : List (List RV))
 | row (e n : Nat) (es : List (List RV))
 | rng (b : ByteArray)
 | nils (k : Nat) (m : List (Option Nat))
 | frz (id : Nat)
 | idxR {α : Type} (C : α → List RV) (l : List α) (id n j : Nat) (h : j < l.length)
 | lenR {α : Type} (C : α → List RV) (l : List α) (id n : Nat)
 | ldR {α : Type} (C : α → List RV) (l : List α) (id n j off k : Nat) (e : α) (h : l[j]? = some e)
 | ldR1 {α : Type} (C : α → List RV) (l : List α) (id n j off : Nat) (e : α) (h : l[j]? = some e)
 | mk {α : Type} (C : α → List RV) (d : α) (m c e n bytes : Nat) (h : m ≤ c ∧ c ≤ maxLen ∧ bytes * c ≤ 281474976710656)
 | idxA (j : Nat)
 | slc {α : Type} (C : α → List RV) (l : List α) (n : Nat) (lo hi : Option Nat) (h1 : lo.getD 0 ≤ hi.getD l.length) (h2 : hi.getD l.length ≤ l.length)
 | slcS (b : ByteArray) (lo hi : Option Nat) (h1 : lo.getD 0 ≤ hi.getD b.size) (h2 : hi.getD b.size ≤ b.size)
 | slot (k : Nat) (u v : AV) (h : u = v)
 | nrow (k e n : Nat)
 | faR {α : Type} (C : α → List RV) (l : List α) (id n j off : Nat) (e : α) (h : l[j]? = some e)
 | stR {α : Type} (C : α → List RV) (l : List α) (id n j off : Nat) (e e' : α) (h : l[j]? = some e)
 | fnc
 | callB (f : FuncId) (p q args : List AV) (r : AV) (h : ACalls P G f args [] 0 fun r1 τ1 => r1 = r ∧ τ1 = [])

def unNil : RV → RV
 | .sl _ [] => .v (.slice none 0 0)
 | .li _ [] => .v (.slice none 0 0)
 | x => x
theorem unNil_rel {w : World} {ro : Nat → Prop} {x : RV} {v : Value} (h : unNil x = .v v) (hv : v.oneCell' = true) : RRel w ro x v := by
 unfold unNil at h
 split at h
 ·rename_i n
  simp only [RV.v.injEq] at h
  subst h
  exact .sl n [] none 0 (fun _ => undef) (Nat.le_refl _) (Nat.zero_le _) (by simp) (by simp) (by simp)
 ·rename_i i
  simp only [RV.v.injEq] at h
  subst h
  exact .li i [] _ (.sl (nT i) [] none 0 (fun _ => undef) (Nat.le_refl _) (Nat.zero_le _) (by simp) (by simp) (by simp))
 ·subst h
  exact .v _ hv

section
variable {P : Program} {G : Glob} {o : Oper} {s : St}
theorem R_mk {α : Type} (C : α → List RV) (d : α) (m c : Nat) {t : TypeId} {x y : Operand} (ho : o.op = .makeSlice t x y) {e n bytes : Nat} (ht : apType P t = some (e, n, bytes)) {zs : List Value} (hz : zeroCells P e = some zs) (hzall : zs.all Value.oneCell' = true)
    (hd : zs.map RV.v = (C d).map unNil) (hx : aval G s x = vi (m : Int)) (hy : aval G s y = vi (c : Int)) (hsz : m ≤ c ∧ c ≤ maxLen ∧ bytes * c ≤ 281474976710656) :
    NRow P G o s e n ((List.replicate m d).map C) := by
  obtain ⟨i, z, hu, hi, hzz, hsize, hby, hzs, hn⟩ := apType_spec ht
  obtain ⟨z', _, hzc, i', hi', hz'⟩ := run_zero (P := P) hz default
  have hzz' : z.cells = zs.toArray := by
    rw [hi] at hi'
    simp only [Option.some.injEq] at hi'
    subst hi'
    rw [hzz] at hz'
    simp only [Option.some.injEq] at hz'
    subst hz'
    exact hzc
  have hzl : zs.length = n := by rw [← hzs, hzz']; simp
  have hdl : (C d).length = n := by rw [← hzl]; have := congrArg List.length hd; simpa using this.symm
  have hel : ∀ q ∈ (List.replicate m d).map C, q.length = n := by
    intro q hq
    rw [List.mem_map] at hq
    obtain ⟨u, hu, rfl⟩ := hq
    rw [List.mem_replicate] at hu
    rw [hu.2]; exact hdl
  refine ⟨hel, fun E a w β ro hr => ?_⟩
  have hc63 : (c : Int) ≤ 9223372036854775807 := by
    have h := hsz.2.1
    simp only [maxLen] at h
    omega
  have hbc : (i.bytes : Int) * (c : Int) ≤ 281474976710656 := by
    have h : ((i.bytes * c : Nat) : Int) ≤ 281474976710656 := by rw [hby]; have := hsz.2.2; omega
    rwa [Int.natCast_mul] at h
  have hrun := run_make (P := P) w t e i z hu hi hzz .i64 .i64 (m : Int) (c : Int) (by omega) (by have := hsz.1; omega) hbc hc63
  simp only [Int.toNat_natCast, hsize] at hrun
  refine ⟨.slice (some ⟨w.heap.size, 0, none⟩) m c, (madeCells z.cells (c * n)).toList.take (m * n), _, by simp only [execOp, ho, hr.evalV hx, hr.evalV hy, Sem.run_bind, hrun, Result.andThen_ok, Sem.run_pure], ⟨?_, .inr ⟨w.heap.size, c, madeCells z.cells (c * n), by rw [List.length_map, List.length_replicate], Nat.zero_le _, heap_alloc_new w _, by rw [List.length_map, List.length_replicate]; exact hsz.1, hsz.2.1, size_madeCells _ _, by rw [List.length_map, List.length_replicate]⟩⟩, World.grownBy_alloc w _ none, fun b hbk => ?_, fun j x hj => ?_⟩
  · rw [List.length_take, Array.length_toList, size_madeCells, List.length_map, List.length_replicate, Nat.min_eq_left (Nat.mul_le_mul_right _ hsz.1)]
  · simp only [blk] at hbk
    split at hbk
    · cases hbk
    · simp at hbk; omega
  · have hjl : j < m * n := by
      have := (List.getElem?_eq_some_iff.1 hj).1
      rwa [length_flatten_of hel, List.length_map, List.length_replicate] at this
    have hm : j = (j / n) * n + j % n := by rw [Nat.mul_comm]; exact (Nat.div_add_mod j n).symm
    have hmn : j % n < n := Nat.mod_lt _ hn
    have hdl' : j / n < m := by rw [Nat.div_lt_iff_lt_mul hn]; exact hjl
    rw [hm, flatten_at hel (i := j / n) (e := C d) (by simp [hdl']) (j % n) hmn] at hj
    have h3 : j % n < zs.length := by omega
    have hjc : j < c * n := Nat.lt_of_lt_of_le hjl (Nat.mul_le_mul_right _ hsz.1)
    have e1 : ((madeCells z.cells (c * n)).toList.take (m * n)).getD j undef = zs[j % n] := by
      simp [List.getD, hjl, madeCells, hzz', hjc, hzl, List.getElem?_eq_getElem h3]
    rw [e1]
    have hd' := congrArg (·[j % n]?) hd
    simp only [List.getElem?_map, hj, List.getElem?_eq_getElem h3, Option.map_some, Option.some.injEq] at hd'
    refine unNil_rel hd'.symm ?_
    rw [List.all_eq_true] at hzall
    exact hzall _ (List.getElem_mem h3)
end

section
variable {P : Program} {G : Glob} {o : Oper} {s : St}
theorem R_indexArr (j : Nat) {t : TypeId} {x i : Operand} (ho : o.op = .index t x i) {len e : Nat} (hu : P.underlying t = some (.array len e)) (hsc : scalar P e = true) (hsz : (P.info? e).map (·.size) = some 1) (hi : aval G s i = vi (j : Int)) {cs : List AV} (hx : aval G s x = .agg cs) {v : AV} (hv : cs[j]? = some v) (hj : j < len) : VStep P G o s v :=
 fun _ a w β ro hr => by
  have h := hr.eval x
  rw [hx] at h
  generalize he : a.eval x = c at h
  cases h with
  | agg _ c hs hc =>
   have hlt : j < c.size := by have := (List.getElem?_eq_some_iff.1 hv).1; omega
   have hse : (sizeOf e).run P w = .ok 1 w := by
    cases hi : P.info? e with
    | none => simp [hi] at hsz
    | some i => simp [hi] at hsz; simp [sizeOf, typeInfo, hi, hsz]
   refine ⟨c[j], ?_, by simpa [hlt] using hc _ v hv⟩
   simp [execOp, ho, he, hr.evalV hi, Instr.index, asIntOf, run_underlying hu, hse, part, run_isAgg_scalar hsc, hlt, hj]
end
section
variable {P : Program} {G : Glob}

def hexp : Hint P G → AV
 | .run _ => .top
 | .cast u _ _ => u
 | .idx C l n j _ _ => .tuple [.rv (.sl n (l.map C)), vi (j : Int)]
 | .idxS b j _ _ => .tuple [vs b, vi (j : Int)]
 | .len C l n => .rv (.sl n (l.map C))
 | .call f args _ _ _ _ => .tuple (.fn (.func f) [] [] :: args)
 | .take C l n k _ => .tuple [.rv (.sl n (l.map C)), vi (k : Int)]
 | .cut0 C l _ n => .rv (.sl n (l.map C))
 | .app C l m id _ n _ _ => .tuple [.sl id, .rv (.sl n (l.map C)), .rv (.sl n (m.map C))]
 | .mnx _ a b => .tuple [vi a, vi b]
 | .lit _ n es => .rv (.sl n es)
 | .row _ n es => .rv (.sl n es)
 | .rng b => vs b
 | .nils _ _ => .top
 | .frz _ => .top
 | .idxR C l id n j _ => .tuple [.sl id, .rv (.sl n (l.map C)), vi (j : Int)]
 | .lenR C l id n => .tuple [.sl id, .rv (.sl n (l.map C))]
 | .ldR C l id n j off _ _ _ => .tuple [.eptr id j off, .rv (.sl n (l.map C))]
 | .ldR1 C l id n j off _ _ => .tuple [.eptr id j off, .rv (.sl n (l.map C))]
 | .mk C d m c _ _ _ _ => .tuple [vi (m : Int), vi (c : Int), .rv (.ptr ((C d).map unNil))]
 | .idxA j => vi (j : Int)
 | .slc C l n lo hi _ _ => .tuple [.rv (.sl n (l.map C)), (match lo with | some k => vi (k : Int) | none => .top), (match hi with | some k => vi (k : Int) | none => .top)]
 | .slcS b lo hi _ _ => .tuple [vs b, (match lo with | some k => vi (k : Int) | none => .top), (match hi with | some k => vi (k : Int) | none => .top)]
 | .slot _ u _ _ => u
 | .nrow _ _ _ => .top
 | .faR C l id n j off _ _ => .tuple [.eptr id j off, .rv (.sl n (l.map C))]
 | .stR C l id n j off _ e' _ => .tuple [.eptr id j off, .rv (.sl n (l.map C)), .rv (.ptr (C e'))]
 | .fnc => .top
 | .callB f p q args _ _ => .tuple (.fn (.func f) p q :: args)

def rowOf (σ : Heap) (id n : Nat) : Option (TypeId × List (List RV)) :=
 match hget σ id with
 | some (.row false t m es) => match Nat.beq m n with
  | true => some (t, es)
  | false => none
 | _ => none

def hstep (P : Program) (G : Glob) (o : Oper) (s : St) : Hint P G → Option (AV × St)
 | .cast _ v _ => match vstep P G o s with
  | some a => some (a, s.put o.dst v)
  | none => none
 | .idx C _ n _ e _ => match o.op with
  | .indexAddr t x i => match elemSize P t with
   | some n' => match Nat.beq n' n with
    | true => some (.tuple [aval G s x, aval G s i], s.put o.dst (.rv (.ptr (C e))))
    | false => none
   | none => none
  | _ => none
 | .idxS _ _ u _ => match o.op with
  | .index t x i => match isStr P t with
   | true => some (.tuple [aval G s x, aval G s i], s.put o.dst (.rv (.v (.int .u8 (u.toNat : Int)))))
   | false => none
  | _ => none
 | .len _ l _ => match o.op with
  | .call c => match c.callee, c.args.toList, c.argTypes.toList with
   | .builtin .len, [x], [t] => match isSlice P t with
    | true => some (aval G s x, s.put o.dst (vi (l.length : Int)))
    | false => none
   | _, _, _ => none
  | _ => none
 | .call f _ r τ K _ => match o.op with
  | .call c => match c.callee with
   | .value x => match callable P f && (pureL (c.args.toList.map fun y => viewA s.heap (aval G s y)) && (belowA K r && (belowH K τ && Nat.ble s.base s.next))) with
    | true => some (.tuple (aval G s x :: c.args.toList.map fun y => viewA s.heap (aval G s y)), { s with heap := shiftH s.next τ ++ s.heap, next := s.next + K }.put o.dst (shiftA s.next r))
    | false => none
   | _ => none
  | _ => none
 | .take C l n k _ => match o.op with
  | .slice t x none (some y) none => match elemSize P t with
   | some n' => match Nat.beq n' n with
    | true => some (.tuple [aval G s x, aval G s y], s.put o.dst (.rv (.sl n ((l.take k).map C))))
    | false => none
   | none => none
  | _ => none
 | .cut0 _ _ _ _ => none
 | .app C l m id e n bytes _ => match o.op with
  | .call c => match c.callee, c.args.toList, c.argTypes.toList with
   | .builtin .append, [x, y], [t, t'] => match apType P t with
    | some (e', n', b') => match Nat.beq t t' && (Nat.beq e' e && (Nat.beq n' n && (Nat.beq b' bytes && (Nat.ble s.base id && Nat.blt id s.next)))), rowOf s.heap id n with
     | true, some (e2, es) => match Nat.beq e2 e with
      | true => some (.tuple [aval G s x, .rv (.sl n es), aval G s y], St.put ⟨killL id s.slots, (id, .row false e n ((l ++ m).map C)) :: killH id s.heap, s.next, s.base⟩ o.dst (.sl id))
      | false => none
     | _, _ => none
    | none => none
   | _, _, _ => none
  | _ => none
 | .mnx mx a b => match o.op with
  | .call c => match c.callee, c.args.toList, mx with
   | .builtin .min, [x, y], false => some (.tuple [aval G s x, aval G s y], s.put o.dst (vi (if b < a then b else a)))
   | .builtin .max, [x, y], true => some (.tuple [aval G s x, aval G s y], s.put o.dst (vi (if b > a then b else a)))
   | _, _, _ => none
  | _ => none
 | .lit e n es => match o.op with
  | .buildSlice t len parts => match bsRow P G s t len parts.toList with
   | some (e', n', es') => match Nat.beq e' e && Nat.beq n' n with
    | true => some (.rv (.sl n es'), s.put o.dst (.rv (.sl n es)))
    | false => none
   | none => none
  | _ => none
 | .row e n es => match o.op with
  | .buildSlice t len parts => match bsRow P G s t len parts.toList with
   | some (e', n', es') => match Nat.beq e' e && (Nat.beq n' n && Nat.ble s.base s.next) with
    | true => some (.rv (.sl n es'), { s with heap := (s.next, .row false e n es) :: s.heap, next := s.next + 1 }.put o.dst (.sl s.next))
    | false => none
   | none => none
  | _ => none
 | .rng b => match o.op with
  | .range t x => match isStr P t && Nat.ble s.base s.next with
   | true => some (aval G s x, { s with heap := (s.next, .oth (strIt b 0)) :: s.heap, next := s.next + 1 }.put o.dst (.ref s.next))
   | false => none
  | _ => none
 | .idxR _ _ id n j _ => match o.op with
  | .indexAddr t x i => match elemSize P t, rowOf s.heap id n with
   | some n', some (_, es) => match Nat.beq n' n with
    | true => some (.tuple [aval G s x, .rv (.sl n es), aval G s i], s.put o.dst (.eptr id j 0))
    | false => none
   | _, _ => none
  | _ => none
 | .lenR _ l id n => match o.op with
  | .call c => match c.callee, c.args.toList, c.argTypes.toList with
   | .builtin .len, [x], [t] => match isSlice P t, rowOf s.heap id n with
    | true, some (_, es) => some (.tuple [aval G s x, .rv (.sl n es)], s.put o.dst (vi (l.length : Int)))
    | _, _ => none
   | _, _, _ => none
  | _ => none
 | .ldR C _ id n _ off k e _ => match o.op with
  | .load t x => match aggSize P t, rowOf s.heap id n with
   | some k', some (_, es) => match Nat.beq k' k && (Nat.ble 1 k && Nat.ble k ((C e).drop off).length) with
    | true => some (.tuple [aval G s x, .rv (.sl n es)], s.put o.dst (.agg ((((C e).drop off).map AV.rv).take k)))
    | false => none
   | _, _ => none
  | _ => none
 | .ldR1 C _ id n _ off e _ => match o.op with
  | .load t x => match scalar P t, rowOf s.heap id n, (C e).drop off with
   | true, some (_, es), v :: _ => some (.tuple [aval G s x, .rv (.sl n es)], s.put o.dst (.rv v))
   | _, _, _ => none
  | _ => none
 | .slc C l n lo hi _ _ => match o.op with
  | .slice t x olo ohi none => match elemSize P t, olo.isSome == lo.isSome && ohi.isSome == hi.isSome with
   | some n', true => match Nat.beq n' n with
    | true => some (.tuple [aval G s x, (match olo with | some y => aval G s y | none => .top), (match ohi with | some y => aval G s y | none => .top)], s.put o.dst (.rv (.sl n (((l.take (hi.getD l.length)).drop (lo.getD 0)).map C))))
    | false => none
   | _, _ => none
  | _ => none
 | .slcS b lo hi _ _ => match o.op with
  | .slice t x olo ohi none => match isStr P t && (olo.isSome == lo.isSome && ohi.isSome == hi.isSome) with
   | true => some (.tuple [aval G s x, (match olo with | some y => aval G s y | none => .top), (match ohi with | some y => aval G s y | none => .top)], s.put o.dst (vs (b.extract (lo.getD 0) (hi.getD b.size))))
   | false => none
  | _ => none
 | .idxA j => match o.op with
  | .index t x i => match P.underlying t, aval G s x with
   | some (.array len e), .agg cs => match cs[j]?, scalar P e && (Nat.blt j len && ((P.info? e).map (·.size) == some 1)) with
    | some v, true => some (aval G s i, s.put o.dst v)
    | _, _ => none
   | _, _ => none
  | _ => none
 | .mk C d m _ e n bytes _ => match o.op with
  | .makeSlice t x y => match apType P t, zeroCells P e with
   | some (e', n', b'), some zs => match Nat.beq e' e && (Nat.beq n' n && (Nat.beq b' bytes && (zs.all Value.oneCell' && Nat.ble s.base s.next))) with
    | true => some (.tuple [aval G s x, aval G s y, .rv (.ptr (zs.map RV.v))], { s with heap := (s.next, .row false e n ((List.replicate m d).map C)) :: s.heap, next := s.next + 1 }.put o.dst (.sl s.next))
    | false => none
   | _, _ => none
  | _ => none
 | .faR _ _ id n j off _ _ => match o.op with
  | .fieldAddr t x f => match fldOff P t f, rowOf s.heap id n with
   | some k, some (_, es) => some (.tuple [aval G s x, .rv (.sl n es)], s.put o.dst (.eptr id j (off + k)))
   | _, _ => none
  | _ => none
 | .stR C l id n j off e e' _ => match o.op with
  | .store t p x => match rowOf s.heap id n, rvs (vcells (aval G s x)) with
   | some (bt, es), some vs => match ((P.info? t).map (·.size) == some vs.length) && Nat.ble (off + vs.length) n with
    | true => some (.tuple [aval G s p, .rv (.sl n es), .rv (.ptr (splice (C e) off vs))], { s with heap := hset s.heap id (.row false bt n ((l.set j e').map C)) }.put o.dst .top)
    | false => none
   | _, _ => none
  | _ => none
 | .fnc => match o.op with
  | .makeFunc (.func f) p q => some (.top, s.put o.dst (.fn (.func f) (p.toList.map (aval G s)) (q.toList.map (aval G s))))
  | _ => none
 | .callB f p q _ r _ => match o.op with
  | .call c => match c.callee with
   | .value x => match callable P f && (pureL (lendL s.heap (p ++ c.args.toList.map (aval G s) ++ q)) && scalA r) with
    | true => some (.tuple (aval G s x :: lendL s.heap (p ++ c.args.toList.map (aval G s) ++ q)), s.put o.dst r)
    | false => none
   | _ => none
  | _ => none
 | _ => none

theorem arr1 {α : Type} {a : Array α} {x : α} (h : a.toList = [x]) : a = #[x] := by apply Array.ext'; simpa using h
theorem arr2 {α : Type} {a : Array α} {x y : α} (h : a.toList = [x, y]) : a = #[x, y] := by apply Array.ext'; simpa using h

end
end Go.Av
