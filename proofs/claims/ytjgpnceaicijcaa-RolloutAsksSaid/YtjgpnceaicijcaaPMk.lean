/- The AV calculus, part K: append, make, cuts of slices and strings, small builtins, conversions. Conditions: none. -/
import Derived.Test.YtjgpnceaicijcaaPMj
import Derived.Maps.AppendAt
namespace Go.Av
open Go

/-- The elements of what a slot holds as a slice. -/
def aelems (σ : Heap) (n : Nat) : AV → Option (List (List RV))
  | .rv (.sl m es) => if m = n then some es else none
  | .rv (.v (.slice none 0 0)) => some []
  | .sl id => match hget σ id with
    | some (.row _ _ m es) => if m = n then some es else none
    | _ => none
  | _ => none

section
variable {P : Program} {G : Glob} {o : Oper} {s : St}

theorem RRel.elems {w : World} {ro : Nat → Prop} {n : Nat} {es : List (List RV)} {c : Value} (h : RRel w ro (.sl n es) c) :
    ∃ b cap, c = .slice b es.length cap ∧ (∀ e ∈ es, e.length = n) ∧ (b = none → es = []) ∧ ∃ f : Nat → Value, (∀ a, b = some a → ∀ j, j < es.length * n → w.cell? (a.add j) = some (f j)) ∧ ∀ j x, es.flatten[j]? = some x → RRel w ro x (f j) := by
  cases h with
  | sl _ _ b cap f h1 h2 h3 h4 h5 =>
    refine ⟨b, cap, rfl, h3, fun hb => ?_, f, fun a ha j hj => ?_, h5⟩
    · rcases Nat.eq_zero_or_pos es.length with h | h
      · exact List.eq_nil_of_length_eq_zero h
      · obtain ⟨a, ha, _⟩ := h4 h
        rw [hb] at ha
        cases ha
    · have hp : 0 < es.length := by
        rcases Nat.eq_zero_or_pos es.length with h | h
        · rw [h] at hj; simp at hj
        · exact h
      obtain ⟨a', ha', hc⟩ := h4 hp
      rw [ha] at ha'
      simp only [Option.some.injEq] at ha'
      subst ha'
      exact (hc j hj).2

theorem aelems_rel {w : World} {ro : Nat → Prop} {σ : Heap} {β : Nat → Value} {N : Nat} (hh : HRel w ro σ β N) {x : AV} {c : Value} (h : ARel w ro σ β N x c) {n : Nat} {es : List (List RV)} (he : aelems σ n x = some es) :
    ∃ b cap, c = .slice b es.length cap ∧ (∀ e ∈ es, e.length = n) ∧ (b = none → es = []) ∧ ∃ f : Nat → Value, (∀ a, b = some a → ∀ j, j < es.length * n → w.cell? (a.add j) = some (f j)) ∧ ∀ j x, es.flatten[j]? = some x → RRel w ro x (f j) := by
  cases h with
  | rv x c hx =>
    cases x with
    | v y =>
      cases hx
      cases c with
      | slice a l cp =>
        cases a with
        | none =>
          cases l with
          | zero =>
            cases cp with
            | zero =>
              simp [aelems] at he
              subst he
              exact ⟨none, 0, rfl, by simp, fun _ => rfl, fun _ => undef, by simp, by simp⟩
            | succ => simp [aelems] at he
          | succ => simp [aelems] at he
        | some => simp [aelems] at he
      | _ => simp [aelems] at he
    | ptr => simp [aelems] at he
    | mp => simp [aelems] at he
    | sl m es' =>
      simp only [aelems] at he
      split at he
      · rename_i hm
        subst hm
        simp only [Option.some.injEq] at he
        subst he
        exact hx.elems
      · cases he
  | sl id c hl hp =>
    simp only [aelems] at he
    split at he
    · rename_i z t m es' hg
      split at he
      · rename_i hm
        subst hm
        simp only [Option.some.injEq] at he
        subst he
        rw [hp z t _ _ hg]
        have hO := hh.objs id _ hg
        cases hO with
        | row _ _ _ xs h1 h2 h3 =>
          rcases h1.2 with ⟨⟨b, hv⟩, hz⟩ | ⟨g, cap, cur, hv, hc, hgg, hle, hcm, hcs, htake⟩
          · have : es' = [] := List.eq_nil_of_length_eq_zero hz
            subst this
            rw [hv]
            exact ⟨b, 0, rfl, by simp, fun _ => rfl, fun _ => undef, by simp, by simp⟩
          · rw [hv]
            refine ⟨_, _, rfl, h2, by simp, fun j => xs.getD j undef, fun a ha j hj => ?_, h3⟩
            simp only [Option.some.injEq] at ha
            subst ha
            rw [addLit, Nat.zero_add, cell_of_row w g j cur t (0, 0) hgg]
            have hx : xs[j]? = cur[j]? := by rw [← htake, List.getElem?_take, if_pos hj]; simp
            have hxl : j < xs.length := by rw [h1.1]; exact hj
            rw [← hx]
            simp [List.getD, List.getElem?_eq_getElem hxl]
        | fro _ _ _ h1 => exact h1.elems
      · cases he
    · cases he
  | _ => simp [aelems] at he

/-- What append does to an own row. -/
theorem run_append_row {w : World} (t ty e : TypeId) {i : TypeInfo} {z : Value} {n bytes : Nat} (ht : P.underlying t = some (.slice e)) (hi : P.info? e = some i) (hz : i.zero = some z) (hsize : i.size = n) (hby : i.bytes = bytes) (hzs : z.cells.size = n) (hn : 0 < n)
    {v : Value} {len : Nat} {xs : List Value} (hrow : RowIs w e n v len xs) {b : Option Addr} {m cap : Nat} {news : List Value} (hl : news.length = m * n) (hb : b = none → m = 0) (hnews : ∀ a, b = some a → ∀ j u, news[j]? = some u → w.cell? (a.add j) = some u)
    (h1 : ∀ u ∈ news, u.oneCell' = true) (h63 : len + m ≤ maxLen) (hbytes : (len + m) * bytes ≤ 140737488355328) :
    ∃ v' w', (Builtin.append_ #[t, t] ty #[v, .slice b m cap]).run P w = .ok v' w' ∧ RowIs w' e n v' (len + m) (xs ++ news) ∧ w.grownBy w' (blk v) ∧ (∀ k, blk v' = some k → blk v = some k ∨ w.heap.size ≤ k) := by
  by_cases hm : m = 0
  · subst hm
    have hnil : news = [] := List.eq_nil_of_length_eq_zero (by simpa using hl)
    subst hnil
    refine ⟨v, w, ?_, by simpa using hrow, World.grownBy.refl w _, fun k hk => .inl hk⟩
    have hload : (Builtin.firstCells n 0 (.slice b 0 cap)).run P w = .ok #[] w := by
      cases b with
      | none => simp [Builtin.firstCells]
      | some a => simp [Builtin.firstCells, loadCells, loadCellsFrom]
    rcases hrow.2 with ⟨⟨c, rfl⟩, rfl⟩ | ⟨g, cp, cur, rfl, _, _, hle, _⟩
    · cases c <;> simp [Builtin.append_, run_underlying ht, sizeOf, typeInfo, hi, hsize, Builtin.lenOf, hload, storeCells]
    · simp [Builtin.append_, run_underlying ht, sizeOf, typeInfo, hi, hsize, Builtin.lenOf, hload, storeCells, hle]
  · cases b with
    | none => exact absurd (hb rfl) hm
    | some a =>
      have hcells := hnews a rfl
      have own : w.ownsRow 0 e n v len xs → _ := fun hown => run_append_own_at (P := P) w 0 t ty e i z n bytes ht hi hz hsize hby hzs hn v len xs hown a m cap news hl hcells h1 h63 hbytes (Nat.zero_le _)
      have fin : w.ownsRow 0 e n v len xs → v.ownBlock = blk v → ∃ v' w', (Builtin.append_ #[t, t] ty #[v, .slice (some a) m cap]).run P w = .ok v' w' ∧ RowIs w' e n v' (len + m) (xs ++ news) ∧ w.grownBy w' (blk v) ∧ (∀ k, blk v' = some k → blk v = some k ∨ w.heap.size ≤ k) := by
        intro hown hbk
        obtain ⟨v', w', g1, g2, g3, _, g5⟩ := own hown
        refine ⟨v', w', g1, .of_owns g2, hbk ▸ g3, fun k hk => ?_⟩
        have hk' : v'.ownBlock = some k := by
          cases v' with
          | slice c l p =>
            cases c with
            | none => simp [blk] at hk
            | some c =>
              simp only [blk] at hk
              split at hk
              · cases hk
              · simpa [Value.ownBlock] using hk
          | pointer c =>
            rcases g2.2 with ⟨h, _⟩ | ⟨_, _, _, h, _⟩ <;> cases h
          | map c =>
            rcases g2.2 with ⟨h, _⟩ | ⟨_, _, _, h, _⟩ <;> cases h
          | _ => simp [blk] at hk
        rcases g5 with h | h
        · rw [h, hbk] at hk'; exact .inl hk'
        · rw [h] at hk'; simp at hk'; exact .inr (by omega)
      rcases hrow.2 with ⟨⟨c, rfl⟩, rfl⟩ | ⟨g, cp, cur, rfl, hcp, hg, hle, hcm, hcs, htake⟩
      · have hx : xs = [] := List.eq_nil_of_length_eq_zero (by simpa using hrow.1)
        subst hx
        cases c with
        | none => exact fin (World.ownsRow_nil w 0 e n) rfl
        | some c =>
          have hgr := run_append_grow (P := P) w t ty e i z ht hi hz c 0 0 [] (by simp) (by simp) a m cap news (by rw [hsize]; exact hl) hcells (by omega) (by simp only [maxLen] at h63; omega) (growslice_fits (by omega) (by rw [hby]; exact hbytes))
          have hown := World.ownsRow_made (e := e) (size := n) w.drew (news.toArray ++ Builtin.zeroCells z.cells (grownCap w (0 + m) 0 e - (0 + m))) (grownCap w (0 + m) 0 e) (base := 0) (Nat.zero_le _) (grownCap_le_maxLen w (0 + m) 0 e h63) (by
            have := grownCap_ge w (0 + m) 0 e
            simp only [Array.size_append, List.size_toArray, size_zeroCells, hzs, hl, ← Nat.add_mul]
            congr 1
            omega)
          refine ⟨_, _, hgr, ?_, ⟨rfl, rfl, rfl, by simp, fun k hk _ => Go.RowKit.Below.heap_alloc w.drew _ k hk⟩, fun k hk => ?_⟩
          · have hge := grownCap_ge w (0 + m) 0 e
            refine ⟨by simp [hl], .inr ⟨w.heap.size, grownCap w (0 + m) 0 e, _, rfl, by omega, heap_alloc_new w.drew _, hge, grownCap_le_maxLen w (0 + m) 0 e h63, ?_, ?_⟩⟩
            · simp only [Array.size_append, List.size_toArray, size_zeroCells, hzs, hl, ← Nat.add_mul, List.length_nil, Nat.zero_add] at hge ⊢
              congr 1
              omega
            · simp only [Array.toList_append, List.nil_append, Nat.zero_add]
              rw [← hl]
              exact List.take_left
          · simp only [blk] at hk
            split at hk
            · cases hk
            · simp at hk; exact .inr (by omega)
      · exact fin ⟨hrow.1, .inr ⟨g, cp, cur, rfl, Nat.zero_le _, hg, hle, hcm, hcs, htake⟩⟩ (by simp [Value.ownBlock, blk, Nat.ne_of_gt hcp])

/-- What an append asks of the element's type: its slice type, its cells and its bytes. -/
def apType (P : Program) (t : TypeId) : Option (Nat × Nat × Nat) :=
  match P.underlying t with
  | some (.slice e) => match P.info? e with
    | some i => match i.zero with
      | some z => if z.cells.size = i.size ∧ 0 < i.size then some (e, i.size, i.bytes) else none
      | none => none
    | none => none
  | _ => none

theorem apType_spec {t e n bytes : Nat} (h : apType P t = some (e, n, bytes)) : ∃ i z, P.underlying t = some (.slice e) ∧ P.info? e = some i ∧ i.zero = some z ∧ i.size = n ∧ i.bytes = bytes ∧ z.cells.size = n ∧ 0 < n := by
  unfold apType at h
  split at h
  · rename_i e' hu
    split at h
    · rename_i i hi
      split at h
      · rename_i z hz
        split at h
        · rename_i hc
          simp only [Option.some.injEq, Prod.mk.injEq] at h
          obtain ⟨rfl, rfl, rfl⟩ := h
          exact ⟨i, z, hu, hi, hz, rfl, rfl, hc.1, hc.2⟩
        · cases h
      · cases h
    · cases h
  · cases h

theorem news_of {w : World} {ro : Nat → Prop} {n : Nat} {es : List (List RV)} (hn : ∀ e ∈ es, e.length = n) {f : Nat → Value} (hf : ∀ j x, es.flatten[j]? = some x → RRel w ro x (f j)) :
    ((List.range (es.length * n)).map f).length = es.length * n ∧ (∀ u ∈ (List.range (es.length * n)).map f, u.oneCell' = true) ∧ ∀ j x, es.flatten[j]? = some x → RRel w ro x (((List.range (es.length * n)).map f).getD j undef) := by
  refine ⟨by simp, fun u hu => ?_, fun j x hj => ?_⟩
  · rw [List.mem_map] at hu
    obtain ⟨j, hj, rfl⟩ := hu
    rw [List.mem_range] at hj
    have hl := length_flatten_of hn
    exact (hf j (es.flatten[j]'(by omega)) (by simp)).one
  · have hl := length_flatten_of hn
    have hjl := (List.getElem?_eq_some_iff.1 hj).1
    have : j < es.length * n := by omega
    simpa [List.getD, this] using hf j x hj

theorem flatten_append_rel {w : World} {ro : Nat → Prop} {n : Nat} {es fs : List (List RV)} (hn : ∀ e ∈ es, e.length = n) {xs ys : List Value} (hx : xs.length = es.length * n) (h1 : ∀ j x, es.flatten[j]? = some x → RRel w ro x (xs.getD j undef))
    (h2 : ∀ j x, fs.flatten[j]? = some x → RRel w ro x (ys.getD j undef)) : ∀ j x, (es ++ fs).flatten[j]? = some x → RRel w ro x ((xs ++ ys).getD j undef) := by
  intro j x hj
  rw [List.flatten_append] at hj
  have hl := length_flatten_of hn
  by_cases h : j < es.flatten.length
  · rw [List.getElem?_append_left h] at hj
    have := h1 j x hj
    rw [List.getD, List.getElem?_append_left (by omega)]
    exact this
  · rw [List.getElem?_append_right (by omega)] at hj
    have := h2 _ x hj
    rw [List.getD, List.getElem?_append_right (by omega), hx, ← hl]
    exact this

/-- append to an own row. -/
theorem R_append (x y : Operand) (t : TypeId) (ho : o.op = .call { callee := .builtin .append, args := #[x, y], argTypes := #[t, t] }) {e n bytes : Nat} (ht : apType P t = some (e, n, bytes))
    {id : Nat} (hx : aval G s x = .sl id) {es : List (List RV)} (hid : hget s.heap id = some (.row false e n es)) (hb : s.base ≤ id) (hlt : id < s.next)
    {fs : List (List RV)} (hy : aelems s.heap n (aval G s y) = some fs) (hsz : es.length + fs.length ≤ maxLen ∧ (es.length + fs.length) * bytes ≤ 140737488355328) :
    OpStep P G o s (St.put ⟨killL id s.slots, (id, .row false e n (es ++ fs)) :: killH id s.heap, s.next, s.base⟩ o.dst (.sl id)) := by
  intro E a w ⟨β, ro, hr⟩ K Q hK
  obtain ⟨i, z, hu, hi, hz, hsize, hby, hzs, hn⟩ := apType_spec ht
  obtain ⟨b, cap, hc, hnf, hbn, f, hf1, hf2⟩ := aelems_rel hr.heap (hr.eval y) hy
  have hO := hr.heap.objs id _ hid
  cases hO with
  | row _ _ _ xs hrow hne hcells =>
    have hxv : a.eval x = β id := by
      have h := hr.eval x
      rw [hx] at h
      generalize a.eval x = c at h
      cases h with
      | sl _ _ _ hp => exact hp _ _ _ _ hid
    obtain ⟨hl1, hl2, hl3⟩ := news_of hnf hf2
    obtain ⟨v', w', hrun, hrow', hgr, hbk⟩ := run_append_row (P := P) t o.type e hu hi hz hsize hby hzs hn hrow (b := b) (m := fs.length) (cap := cap) hl1 (fun hb => by rw [hbn hb]; rfl)
      (fun a' ha j u hj => by
        have hjl := (List.getElem?_eq_some_iff.1 hj).1
        rw [hl1] at hjl
        have h1 := hf1 a' ha j hjl
        simp [hjl] at hj
        rw [h1, hj]) hl2 hsz.1 hsz.2
    unfold Oper.wp
    simp only [execOp, ho, resolve, invoke, builtin, Sem.run_bind, Sem.run_pure, Result.andThen_ok, List.map_toArray, List.map_cons, List.map_nil, hxv, hc, hrun]
    have hother : ∀ k, k < w.heap.size → blk (β id) ≠ some k → w'.heap[k]? = w.heap[k]? := fun k hk hne => hgr.block k hk (fun e => hne e.symm)
    have hro : ∀ k, ro k → w'.heap[k]? = w.heap[k]? := fun k hk => hother k (hr.heap.lt k hk) fun hbk => hr.heap.disj k hk ⟨id, _, hid, rfl, hbk⟩
    refine hK _ _ ⟨upd β id v', ro, RelAt.put (hr.renew (w' := w') id hb hlt hid (.row false e n (es ++ fs)) v' hgr.os hgr.tape hgr.output hgr.size hother hbk rfl ?_) o.dst _ _ ?_⟩
    · refine .row e n _ _ (by rw [upd_same, List.length_append]; exact hrow') (fun e' he' => ?_) (fun j x hj => ?_)
      · rw [List.mem_append] at he'
        rcases he' with h | h
        · exact hne _ h
        · exact hnf _ h
      · exact (flatten_append_rel hne hrow.1 hcells hl3 j x hj).keep hro fun _ h => h
    · exact .sl _ _ hlt fun z t' n' es' _ => (upd_same _ _ _).symm

theorem run_sliceBounds_lh {cap len : Nat} {isS : Bool} {lo hi mx : Option Value} {l h m : Nat} (hm : (mx = none ∧ m = cap) ∨ ∃ k, mx = some (.int k (m : Int))) (hh : (hi = none ∧ mx = none ∧ h = len) ∨ ∃ k, hi = some (.int k (h : Int)))
    (hl : (lo = none ∧ l = 0) ∨ ∃ k, lo = some (.int k (l : Int))) (h1 : l ≤ h) (h2 : h ≤ m) (h3 : m ≤ cap) (w : World) : (Instr.sliceBounds isS len cap lo hi mx).run P w = .ok (l, h, m) w := by
  rcases hm with ⟨rfl, rfl⟩ | ⟨km, rfl⟩ <;> rcases hh with ⟨rfl, hmx, rfl⟩ | ⟨kh, rfl⟩ <;> rcases hl with ⟨rfl, rfl⟩ | ⟨kl, rfl⟩
  all_goals first
    | (cases hmx; done)
    | simp [Instr.sliceBounds, Instr.sliceBound, asIntOf, h1, h2, h3]

/-- A cut of an immutable slice. -/
theorem R_slice (t : TypeId) (x : Operand) (lo hi : Option Operand) (ho : o.op = .slice t x lo hi none) {n : Nat} (ht : elemSize P t = some n) {es : List (List RV)} (hx : aval G s x = .rv (.sl n es)) {l h : Nat}
    (hl : (lo = none ∧ l = 0) ∨ ∃ y k, lo = some y ∧ aval G s y = .rv (.v (.int k (l : Int)))) (hh : (hi = none ∧ h = es.length) ∨ ∃ y k, hi = some y ∧ aval G s y = .rv (.v (.int k (h : Int)))) (h1 : l ≤ h) (h2 : h ≤ es.length)
    {fs : List (List RV)} (hfs : (es.take h).drop l = fs) : VStep P G o s (.rv (.sl n fs)) :=
  fun _ a w β ro hr => by
    obtain ⟨e, hu, hsz⟩ := elemSize_run ht
    have hX := hr.eval x
    rw [hx] at hX
    generalize hc : a.eval x = c at hX
    cases hX with
    | rv _ _ hX =>
      cases hX with
      | sl _ _ b cap f g1 g2 g3 g4 g5 =>
        have hb := run_sliceBounds_lh (P := P) (cap := cap) (len := es.length) (isS := true) (lo := lo.map a.eval) (hi := hi.map a.eval) (mx := none) (l := l) (h := h) (m := cap) (.inl ⟨rfl, rfl⟩)
          (by rcases hh with ⟨rfl, rfl⟩ | ⟨y, k, rfl, hy⟩
              · exact .inl ⟨rfl, rfl, rfl⟩
              · exact .inr ⟨k, by simp [hr.evalV hy]⟩)
          (by rcases hl with ⟨rfl, rfl⟩ | ⟨y, k, rfl, hy⟩
              · exact .inl ⟨rfl, rfl⟩
              · exact .inr ⟨k, by simp [hr.evalV hy]⟩) h1 (by omega) (Nat.le_refl _) w
        have hlen : fs.length = h - l := by rw [← hfs]; simp; omega
        refine ⟨.slice (if cap = l then b else Option.map (fun x => x.add (l * n)) b) (h - l) (cap - l), ?_, .rv _ _ ?_⟩
        · simp only [execOp, ho, Sem.run_bind, hc, Instr.sliceAt, run_underlying hu, Result.andThen_ok, Instr.slice, Option.map_none, hb, hsz, Sem.run_pure]
        · rw [← hlen]
          have hmem : ∀ e ∈ fs, e.length = n := fun e he => g3 e (by rw [← hfs] at he; exact List.mem_of_mem_take (List.mem_of_mem_drop he))
          have hat : ∀ i, i < fs.length → fs[i]? = es[l + i]? := fun i hi => by
            rw [← hfs, List.getElem?_drop, List.getElem?_take, if_pos (by omega)]
          refine .sl n fs _ (cap - l) (fun j => f (l * n + j)) (by omega) (by omega) hmem (fun hp => ?_) (fun j x hj => ?_)
          · obtain ⟨ad, rfl, hcell⟩ := g4 (by omega)
            refine ⟨ad.add (l * n), by rw [if_neg (by omega)]; rfl, fun j hj => ?_⟩
            rw [addB, addAdd]
            refine hcell _ ?_
            have : (l + fs.length) * n ≤ es.length * n := Nat.mul_le_mul_right n (by omega)
            rw [Nat.add_mul] at this
            omega
          · have hnpos : 0 < n := by
              rcases Nat.eq_zero_or_pos n with h0 | h0
              · have := (List.getElem?_eq_some_iff.1 hj).1
                rw [length_flatten_of hmem, h0] at this
                simp at this
              · exact h0
            have hjl : j < fs.length * n := by have := (List.getElem?_eq_some_iff.1 hj).1; rwa [length_flatten_of hmem] at this
            have hm : j = (j / n) * n + j % n := by rw [Nat.mul_comm]; exact (Nat.div_add_mod j n).symm
            have hmn : j % n < n := Nat.mod_lt _ hnpos
            have hdl : j / n < fs.length := by rw [Nat.div_lt_iff_lt_mul hnpos]; exact hjl
            have he : fs[j / n]? = some fs[j / n] := List.getElem?_eq_getElem hdl
            have hj' := hj
            rw [hm, flatten_at hmem he (j % n) hmn] at hj'
            refine g5 _ x ?_
            have e1 : l * n + j = (l + j / n) * n + j % n := by rw [Nat.add_mul]; omega
            rw [e1, flatten_at g3 (i := l + j / n) (e := fs[j / n]) (by rw [← hat _ hdl]; exact he) (j % n) hmn]
            exact hj'

/-- x[:0:0]: an own row without capacity. -/
theorem R_slice00 (t : TypeId) (x y z : Operand) (ho : o.op = .slice t x none (some y) (some z)) {e n : Nat} (hu : P.underlying t = some (.slice e)) (hsz : (P.info? e).map (·.size) = some n) {m : Nat} (hx : alen s.heap (aval G s x) = some m)
    {k k' : IntKind} (hy : aval G s y = .rv (.v (.int k 0))) (hz : aval G s z = .rv (.v (.int k' 0))) (hb : s.base ≤ s.next) :
    OpStep P G o s ({ s with heap := (s.next, .row false e n []) :: s.heap, next := s.next + 1 }.put o.dst (.sl s.next)) := by
  intro E a w ⟨β, ro, hr⟩ K Q hK
  obtain ⟨b, cap, hc⟩ := alen_rel hr.heap (hr.eval x) hx
  have hbd := run_sliceBounds_lh (P := P) (cap := cap) (len := m) (isS := true) (lo := none) (hi := some (.int k 0)) (mx := some (.int k' 0)) (l := 0) (h := 0) (m := 0) (.inr ⟨k', rfl⟩) (.inr ⟨k, rfl⟩) (.inl ⟨rfl, rfl⟩) (Nat.le_refl _) (Nat.le_refl _) (Nat.zero_le _) w
  have hs : (sizeOf e).run P w = .ok n w := by
    cases hi : P.info? e with
    | none => simp [hi] at hsz
    | some i => simp [hi] at hsz; simp [sizeOf, typeInfo, hi, hsz]
  unfold Oper.wp
  simp only [execOp, ho, Sem.run_bind, hc, Instr.sliceAt, run_underlying hu, Result.andThen_ok, Instr.slice, Option.map_some, Option.map_none, hr.evalV hy, hr.evalV hz, hbd, hs, Sem.run_pure, if_true, Nat.sub_self]
  have hnone : hget s.heap s.next = none := by
    cases hg : hget s.heap s.next with
    | none => rfl
    | some p => have := hr.trans.new _ _ hg; omega
  refine hK _ _ ⟨upd β s.next (.slice b 0 0), ro, RelAt.put (hr.new (w' := w) s.next hnone hb (Nat.le_refl _) (.row false e n []) (.slice b 0 0) rfl rfl rfl (Nat.le_refl _) (fun _ _ => rfl) (fun c hc => ?_) rfl ?_) o.dst _ _ ?_⟩
  · cases b <;> simp [blk] at hc
  · exact .row e n [] [] (by rw [upd_same]; exact ⟨by simp, .inl ⟨⟨b, rfl⟩, rfl⟩⟩) (by simp) (by simp)
  · exact .sl _ _ (Nat.lt_succ_self _) fun z t' n' es' _ => (upd_same _ _ _).symm

/-- A cut of a string. -/
theorem R_slice_str (t : TypeId) (x : Operand) (lo hi : Option Operand) (ho : o.op = .slice t x lo hi none) (ht : P.underlying t = some .string) {b : ByteArray} (hx : aval G s x = .rv (.v (.string b))) {l h : Nat}
    (hl : (lo = none ∧ l = 0) ∨ ∃ y k, lo = some y ∧ aval G s y = .rv (.v (.int k (l : Int)))) (hh : (hi = none ∧ h = b.size) ∨ ∃ y k, hi = some y ∧ aval G s y = .rv (.v (.int k (h : Int)))) (h1 : l ≤ h) (h2 : h ≤ b.size) :
    VStep P G o s (.rv (.v (.string (b.extract l h)))) :=
  fun _ a w β ro hr => by
    have hb := run_sliceBounds_lh (P := P) (cap := b.size) (len := b.size) (isS := false) (lo := lo.map a.eval) (hi := hi.map a.eval) (mx := none) (l := l) (h := h) (m := b.size) (.inl ⟨rfl, rfl⟩)
      (by rcases hh with ⟨rfl, rfl⟩ | ⟨y, k, rfl, hy⟩
          · exact .inl ⟨rfl, rfl, rfl⟩
          · exact .inr ⟨k, by simp [hr.evalV hy]⟩)
      (by rcases hl with ⟨rfl, rfl⟩ | ⟨y, k, rfl, hy⟩
          · exact .inl ⟨rfl, rfl⟩
          · exact .inr ⟨k, by simp [hr.evalV hy]⟩) h1 h2 (Nat.le_refl _) w
    exact ⟨_, by simp [execOp, ho, hr.evalV hx, Instr.sliceAt, run_underlying ht, Instr.slice, hb], .ofV rfl⟩

theorem R_convert_int (src dst : TypeId) (x : Operand) (ho : o.op = .convert src dst x) (hs : (P.underlying src).isSome = true) {k' : IntKind} (hd : P.underlying dst = some (.int k')) {k : IntKind} {n : Int} (hx : aval G s x = .rv (.v (.int k n))) :
    VStep P G o s (.rv (.v (.int k' (k'.wrap n)))) :=
  fun _ a w β ro hr => by
    cases hu : P.underlying src with
    | none => simp [hu] at hs
    | some d => exact ⟨_, by simp [execOp, ho, hr.evalV hx, convert, run_underlying hu, run_underlying hd, Conv.intToInt], .ofV rfl⟩

theorem R_min2 (x y : Operand) (ts : Array TypeId) (ho : o.op = .call { callee := .builtin .min, args := #[x, y], argTypes := ts }) {k : IntKind} {m n : Int} (hx : aval G s x = .rv (.v (.int k m))) (hy : aval G s y = .rv (.v (.int k n))) :
    VStep P G o s (.rv (.v (.int k (if n < m then n else m)))) :=
  fun _ a w β ro hr => ⟨.int k (if n < m then n else m), by simp [execOp, ho, resolve, invoke, builtin, hr.evalV hx, hr.evalV hy, run_min_int2], .ofV rfl⟩
theorem R_max2 (x y : Operand) (ts : Array TypeId) (ho : o.op = .call { callee := .builtin .max, args := #[x, y], argTypes := ts }) {k : IntKind} {m n : Int} (hx : aval G s x = .rv (.v (.int k m))) (hy : aval G s y = .rv (.v (.int k n))) :
    VStep P G o s (.rv (.v (.int k (if n > m then n else m)))) :=
  fun _ a w β ro hr => ⟨.int k (if n > m then n else m), by simp [execOp, ho, resolve, invoke, builtin, hr.evalV hx, hr.evalV hy, run_max_int2], .ofV rfl⟩

end
end Go.Av
