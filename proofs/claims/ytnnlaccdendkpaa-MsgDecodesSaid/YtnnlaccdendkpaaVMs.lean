/- The AV calculus, part K: append, make, cuts of slices and strings, small builtins, conversions. Conditions: none. -/
import Derived.Test.YtnnlaccdendkpaaVMj
import Derived.Maps.AppendAt
import Derived.Orders
import Derived.Laws.RangeString
import Derived.Laws.RangeAny
namespace Go.Av
open Go

def aelems (σ : Heap) (n : Nat) : AV → Option (List (List RV))
 | .rv (.sl m es) => if m = n then some es else none
 | .rv (.v (.slice none 0 0)) => some []
 | .sl id => match hget σ id with
  | some (.row _ _ m es) => if m = n then some es else none
  | _ => none
 | _ => none

section
variable {P : Program} {G : Glob} {o : Oper} {s : St}

theorem RRel.elems {w : World} {ro : Nat → Prop} {n : Nat} {es : List (List RV)} {c : Value} (h : RRel w ro (.sl n es) c) :
    ∃ b cap, c = .slice b es.length cap ∧ (∀ e ∈ es, e.length = n) ∧ (b = none → es = []) ∧ ∃ f : Nat → Value, (∀ a, b = some a → ∀ j, j < es.length * n → w.cell? (a.add j) = some (f j)) ∧ ∀ j x, es.flatten[j]? = some x → RRel w ro x (f j) := by
  cases h with
  | sl _ _ b cap f h1 h2 h3 h4 h5 =>
    refine ⟨b, cap, rfl, h3, fun hb => ?_, f, fun a ha j hj => ?_, h5⟩
    · rcases Nat.eq_zero_or_pos es.length with h | h
      · exact List.eq_nil_of_length_eq_zero h
      · obtain ⟨a, ha, _⟩ := h4 h
        rw [hb] at ha
        cases ha
    · have hp : 0 < es.length := by
        rcases Nat.eq_zero_or_pos es.length with h | h
        · rw [h] at hj; simp at hj
        · exact h
      obtain ⟨a', ha', hc⟩ := h4 hp
      rw [ha] at ha'
      simp only [Option.some.injEq] at ha'
      subst ha'
      exact (hc j hj).2

theorem aelems_rel {w : World} {ro : Nat → Prop} {σ : Heap} {β : Nat → Value} {N : Nat} (hh : HRel w ro σ β N) {x : AV} {c : Value} (h : ARel w ro σ β N x c) {n : Nat} {es : List (List RV)} (he : aelems σ n x = some es) :
    ∃ b cap, c = .slice b es.length cap ∧ (∀ e ∈ es, e.length = n) ∧ (b = none → es = []) ∧ ∃ f : Nat → Value, (∀ a, b = some a → ∀ j, j < es.length * n → w.cell? (a.add j) = some (f j)) ∧ ∀ j x, es.flatten[j]? = some x → RRel w ro x (f j) := by
  cases h with
  | rv x c hx =>
    cases x with
    | v y =>
      cases hx
      cases c with
      | slice a l cp =>
        cases a with
        | none =>
          cases l with
          | zero =>
            cases cp with
            | zero =>
              simp [aelems] at he
              subst he
              exact ⟨none, 0, rfl, by simp, fun _ => rfl, fun _ => undef, by simp, by simp⟩
            | succ => simp [aelems] at he
          | succ => simp [aelems] at he
        | some => simp [aelems] at he
      | _ => simp [aelems] at he
    | ptr => simp [aelems] at he
    | mp => simp [aelems] at he
    | sl m es' =>
      simp only [aelems] at he
      split at he
      · rename_i hm
        subst hm
        simp only [Option.some.injEq] at he
        subst he
        exact hx.elems
      · cases he
  | sl id c hl hp =>
    simp only [aelems] at he
    split at he
    · rename_i z t m es' hg
      split at he
      · rename_i hm
        subst hm
        simp only [Option.some.injEq] at he
        subst he
        rw [hp z t _ _ hg]
        have hO := hh.objs id _ hg
        cases hO with
        | row _ _ _ xs h1 h2 h3 =>
          rcases h1.2 with ⟨⟨b, hv⟩, hz⟩ | ⟨g, cap, cur, hv, hc, hgg, hle, hcm, hcs, htake⟩
          · have : es' = [] := List.eq_nil_of_length_eq_zero hz
            subst this
            rw [hv]
            exact ⟨b, 0, rfl, by simp, fun _ => rfl, fun _ => undef, by simp, by simp⟩
          · rw [hv]
            refine ⟨_, _, rfl, h2, by simp, fun j => xs.getD j undef, fun a ha j hj => ?_, h3⟩
            simp only [Option.some.injEq] at ha
            subst ha
            rw [addLit, Nat.zero_add, cell_of_row w g j cur t (0, 0) hgg]
            have hx : xs[j]? = cur[j]? := by rw [← htake, List.getElem?_take, if_pos hj]; simp
            have hxl : j < xs.length := by rw [h1.1]; exact hj
            rw [← hx]
            simp [List.getD, List.getElem?_eq_getElem hxl]
        | fro _ _ _ h1 => exact h1.elems
      · cases he
    · cases he
  | _ => simp [aelems] at he

theorem run_append_row {w : World} (t ty e : TypeId) {i : TypeInfo} {z : Value} {n bytes : Nat} (ht : P.underlying t = some (.slice e)) (hi : P.info? e = some i) (hz : i.zero = some z) (hsize : i.size = n) (hby : i.bytes = bytes) (hzs : z.cells.size = n) (hn : 0 < n)
    {v : Value} {len : Nat} {xs : List Value} (hrow : RowIs w e n v len xs) {b : Option Addr} {m cap : Nat} {news : List Value} (hl : news.length = m * n) (hb : b = none → m = 0) (hnews : ∀ a, b = some a → ∀ j u, news[j]? = some u → w.cell? (a.add j) = some u)
    (h1 : ∀ u ∈ news, u.oneCell' = true) (h63 : len + m ≤ maxLen) (hbytes : (len + m) * bytes ≤ 140737488355328) :
    ∃ v' w', (Builtin.append_ #[t, t] ty #[v, .slice b m cap]).run P w = .ok v' w' ∧ RowIs w' e n v' (len + m) (xs ++ news) ∧ w.grownBy w' (blk v) ∧ (∀ k, blk v' = some k → blk v = some k ∨ w.heap.size ≤ k) := by
  by_cases hm : m = 0
  · subst hm
    have hnil : news = [] := List.eq_nil_of_length_eq_zero (by simpa using hl)
    subst hnil
    refine ⟨v, w, ?_, by simpa using hrow, World.grownBy.refl w _, fun k hk => .inl hk⟩
    have hload : (Builtin.firstCells n 0 (.slice b 0 cap)).run P w = .ok #[] w := by
      cases b with
      | none => simp [Builtin.firstCells]
      | some a => simp [Builtin.firstCells, loadCells, loadCellsFrom]
    rcases hrow.2 with ⟨⟨c, rfl⟩, rfl⟩ | ⟨g, cp, cur, rfl, _, _, hle, _⟩
    · cases c <;> simp [Builtin.append_, run_underlying ht, sizeOf, typeInfo, hi, hsize, Builtin.lenOf, hload, storeCells]
    · simp [Builtin.append_, run_underlying ht, sizeOf, typeInfo, hi, hsize, Builtin.lenOf, hload, storeCells, hle]
  · cases b with
    | none => exact absurd (hb rfl) hm
    | some a =>
      have hcells := hnews a rfl
      have own : w.ownsRow 0 e n v len xs → _ := fun hown => run_append_own_at (P := P) w 0 t ty e i z n bytes ht hi hz hsize hby hzs hn v len xs hown a m cap news hl hcells h1 h63 hbytes (Nat.zero_le _)
      have fin : w.ownsRow 0 e n v len xs → v.ownBlock = blk v → ∃ v' w', (Builtin.append_ #[t, t] ty #[v, .slice (some a) m cap]).run P w = .ok v' w' ∧ RowIs w' e n v' (len + m) (xs ++ news) ∧ w.grownBy w' (blk v) ∧ (∀ k, blk v' = some k → blk v = some k ∨ w.heap.size ≤ k) := by
        intro hown hbk
        obtain ⟨v', w', g1, g2, g3, _, g5⟩ := own hown
        refine ⟨v', w', g1, .of_owns g2, hbk ▸ g3, fun k hk => ?_⟩
        have hk' : v'.ownBlock = some k := by
          cases v' with
          | slice c l p =>
            cases c with
            | none => simp [blk] at hk
            | some c =>
              simp only [blk] at hk
              split at hk
              · cases hk
              · simpa [Value.ownBlock] using hk
          | pointer c =>
            rcases g2.2 with ⟨h, _⟩ | ⟨_, _, _, h, _⟩ <;> cases h
          | map c =>
            rcases g2.2 with ⟨h, _⟩ | ⟨_, _, _, h, _⟩ <;> cases h
          | _ => simp [blk] at hk
        rcases g5 with h | h
        · rw [h, hbk] at hk'; exact .inl hk'
        · rw [h] at hk'; simp at hk'; exact .inr (by omega)
      rcases hrow.2 with ⟨⟨c, rfl⟩, rfl⟩ | ⟨g, cp, cur, rfl, hcp, hg, hle, hcm, hcs, htake⟩
      · have hx : xs = [] := List.eq_nil_of_length_eq_zero (by simpa using hrow.1)
        subst hx
        cases c with
        | none => exact fin (World.ownsRow_nil w 0 e n) rfl
        | some c =>
          have hgr := run_append_grow (P := P) w t ty e i z ht hi hz c 0 0 [] (by simp) (by simp) a m cap news (by rw [hsize]; exact hl) hcells (by omega) (by simp only [maxLen] at h63; omega) (growslice_fits (by omega) (by rw [hby]; exact hbytes))
          have hown := World.ownsRow_made (e := e) (size := n) w.drew (news.toArray ++ Builtin.zeroCells z.cells (grownCap w (0 + m) 0 e - (0 + m))) (grownCap w (0 + m) 0 e) (base := 0) (Nat.zero_le _) (grownCap_le_maxLen w (0 + m) 0 e h63) (by
            have := grownCap_ge w (0 + m) 0 e
            simp only [Array.size_append, List.size_toArray, size_zeroCells, hzs, hl, ← Nat.add_mul]
            congr 1
            omega)
          refine ⟨_, _, hgr, ?_, ⟨rfl, rfl, rfl, by simp, fun k hk _ => Go.RowKit.Below.heap_alloc w.drew _ k hk⟩, fun k hk => ?_⟩
          · have hge := grownCap_ge w (0 + m) 0 e
            refine ⟨by simp [hl], .inr ⟨w.heap.size, grownCap w (0 + m) 0 e, _, rfl, by omega, heap_alloc_new w.drew _, hge, grownCap_le_maxLen w (0 + m) 0 e h63, ?_, ?_⟩⟩
            · simp only [Array.size_append, List.size_toArray, size_zeroCells, hzs, hl, ← Nat.add_mul, List.length_nil, Nat.zero_add] at hge ⊢
              congr 1
              omega
            · simp only [Array.toList_append, List.nil_append, Nat.zero_add]
              rw [← hl]
              exact List.take_left
          · simp only [blk] at hk
            split at hk
            · cases hk
            · simp at hk; exact .inr (by omega)
      · exact fin ⟨hrow.1, .inr ⟨g, cp, cur, rfl, Nat.zero_le _, hg, hle, hcm, hcs, htake⟩⟩ (by simp [Value.ownBlock, blk, Nat.ne_of_gt hcp])

def apType (P : Program) (t : TypeId) : Option (Nat × Nat × Nat) :=
 match P.underlying t with
 | some (.slice e) => match P.info? e with
  | some i => match i.zero with
   | some z => if z.cells.size = i.size ∧ 0 < i.size then some (e, i.size, i.bytes) else none
   | none => none
  | none => none
 | _ => none

theorem apType_spec {t e n bytes : Nat} (h : apType P t = some (e, n, bytes)) : ∃ i z, P.underlying t = some (.slice e) ∧ P.info? e = some i ∧ i.zero = some z ∧ i.size = n ∧ i.bytes = bytes ∧ z.cells.size = n ∧ 0 < n := by
 unfold apType at h
 split at h
 ·rename_i e' hu
  split at h
  ·rename_i i hi
   split at h
   ·rename_i z hz
    split at h
    ·rename_i hc
     simp only [Option.some.injEq, Prod.mk.injEq] at h
     obtain ⟨rfl, rfl, rfl⟩ := h
     exact ⟨i, z, hu, hi, hz, rfl, rfl, hc.1, hc.2⟩
    ·cases h
   ·cases h
  ·cases h
 ·cases h

theorem news_of {w : World} {ro : Nat → Prop} {n : Nat} {es : List (List RV)} (hn : ∀ e ∈ es, e.length = n) {f : Nat → Value} (hf : ∀ j x, es.flatten[j]? = some x → RRel w ro x (f j)) :
    ((List.range (es.length * n)).map f).length = es.length * n ∧ (∀ u ∈ (List.range (es.length * n)).map f, u.oneCell' = true) ∧ ∀ j x, es.flatten[j]? = some x → RRel w ro x (((List.range (es.length * n)).map f).getD j undef) := by
  refine ⟨by simp, fun u hu => ?_, fun j x hj => ?_⟩
  · rw [List.mem_map] at hu
    obtain ⟨j, hj, rfl⟩ := hu
    rw [List.mem_range] at hj
    have hl := length_flatten_of hn
    exact (hf j (es.flatten[j]'(by omega)) (by simp)).one
  · have hl := length_flatten_of hn
    have hjl := (List.getElem?_eq_some_iff.1 hj).1
    have : j < es.length * n := by omega
    simpa [List.getD, this] using hf j x hj

theorem flatten_append_rel {w : World} {ro : Nat → Prop} {n : Nat} {es fs : List (List RV)} (hn : ∀ e ∈ es, e.length = n) {xs ys : List Value} (hx : xs.length = es.length * n) (h1 : ∀ j x, es.flatten[j]? = some x → RRel w ro x (xs.getD j undef))
    (h2 : ∀ j x, fs.flatten[j]? = some x → RRel w ro x (ys.getD j undef)) : ∀ j x, (es ++ fs).flatten[j]? = some x → RRel w ro x ((xs ++ ys).getD j undef) := by
  intro j x hj
  rw [List.flatten_append] at hj
  have hl := length_flatten_of hn
  by_cases h : j < es.flatten.length
  · rw [List.getElem?_append_left h] at hj
    have := h1 j x hj
    rw [List.getD, List.getElem?_append_left (by omega)]
    exact this
  · rw [List.getElem?_append_right (by omega)] at hj
    have := h2 _ x hj
    rw [List.getD, List.getElem?_append_right (by omega), hx, ← hl]
    exact this

theorem R_append (x y : Operand) (t : TypeId) (ho : o.op = .call { callee := .builtin .append, args := #[x, y], argTypes := #[t, t] }) {e n bytes : Nat} (ht : apType P t = some (e, n, bytes))
    {id : Nat} (hx : aval G s x = .sl id) {es : List (List RV)} (hid : hget s.heap id = some (.row false e n es)) (hb : s.base ≤ id) (hlt : id < s.next)
    {fs : List (List RV)} (hy : aelems s.heap n (aval G s y) = some fs) (hsz : es.length + fs.length ≤ maxLen ∧ (es.length + fs.length) * bytes ≤ 140737488355328) :
    OpStep P G o s (St.put ⟨killL id s.slots, (id, .row false e n (es ++ fs)) :: killH id s.heap, s.next, s.base⟩ o.dst (.sl id)) := by
  intro E a w ⟨β, ro, hr⟩ K Q hK
  obtain ⟨i, z, hu, hi, hz, hsize, hby, hzs, hn⟩ := apType_spec ht
  obtain ⟨b, cap, hc, hnf, hbn, f, hf1, hf2⟩ := aelems_rel hr.heap (hr.eval y) hy
  have hO := hr.heap.objs id _ hid
  cases hO with
  | row _ _ _ xs hrow hne hcells =>
    have hxv : a.eval x = β id := by
      have h := hr.eval x
      rw [hx] at h
      generalize a.eval x = c at h
      cases h with
      | sl _ _ _ hp => exact hp _ _ _ _ hid
    obtain ⟨hl1, hl2, hl3⟩ := news_of hnf hf2
    obtain ⟨v', w', hrun, hrow', hgr, hbk⟩ := run_append_row (P := P) t o.type e hu hi hz hsize hby hzs hn hrow (b := b) (m := fs.length) (cap := cap) hl1 (fun hb => by rw [hbn hb]; rfl)
      (fun a' ha j u hj => by
        have hjl := (List.getElem?_eq_some_iff.1 hj).1
        rw [hl1] at hjl
        have h1 := hf1 a' ha j hjl
        simp [hjl] at hj
        rw [h1, hj]) hl2 hsz.1 hsz.2
    unfold Oper.wp
    simp only [execOp, ho, resolve, invoke, builtin, Sem.run_bind, Sem.run_pure, Result.andThen_ok, List.map_toArray, List.map_cons, List.map_nil, hxv, hc, hrun]
    have hother : ∀ k, k < w.heap.size → blk (β id) ≠ some k → w'.heap[k]? = w.heap[k]? := fun k hk hne => hgr.block k hk (fun e => hne e.symm)
    have hro : ∀ k, ro k → w'.heap[k]? = w.heap[k]? := fun k hk => hother k (hr.heap.lt k hk) fun hbk => hr.heap.disj k hk ⟨id, _, hid, rfl, hbk⟩
    refine hK _ _ ⟨upd β id v', ro, RelAt.put (hr.renew (w' := w') id hb hlt hid (.row false e n (es ++ fs)) v' hgr.os hgr.tape hgr.output hgr.size hother hbk rfl ?_) o.dst _ _ ?_⟩
    · refine .row e n _ _ (by rw [upd_same, List.length_append]; exact hrow') (fun e' he' => ?_) (fun j x hj => ?_)
      · rw [List.mem_append] at he'
        rcases he' with h | h
        · exact hne _ h
        · exact hnf _ h
      · exact (flatten_append_rel hne hrow.1 hcells hl3 j x hj).keep hro fun _ h => h
    · exact .sl _ _ hlt fun z t' n' es' _ => (upd_same _ _ _).symm

theorem run_sliceBounds_lh {cap len : Nat} {isS : Bool} {lo hi mx : Option Value} {l h m : Nat} (hm : (mx = none ∧ m = cap) ∨ ∃ k, mx = some (.int k (m : Int))) (hh : (hi = none ∧ mx = none ∧ h = len) ∨ ∃ k, hi = some (.int k (h : Int)))
    (hl : (lo = none ∧ l = 0) ∨ ∃ k, lo = some (.int k (l : Int))) (h1 : l ≤ h) (h2 : h ≤ m) (h3 : m ≤ cap) (w : World) : (Instr.sliceBounds isS len cap lo hi mx).run P w = .ok (l, h, m) w := by
  rcases hm with ⟨rfl, rfl⟩ | ⟨km, rfl⟩ <;> rcases hh with ⟨rfl, hmx, rfl⟩ | ⟨kh, rfl⟩ <;> rcases hl with ⟨rfl, rfl⟩ | ⟨kl, rfl⟩
  all_goals first
    | (cases hmx; done)
    | simp [Instr.sliceBounds, Instr.sliceBound, asIntOf, h1, h2, h3]

theorem R_slice (t : TypeId) (x : Operand) (lo hi : Option Operand) (ho : o.op = .slice t x lo hi none) {n : Nat} (ht : elemSize P t = some n) {es : List (List RV)} (hx : aval G s x = .rv (.sl n es)) {l h : Nat}
    (hl : (lo = none ∧ l = 0) ∨ ∃ y k, lo = some y ∧ aval G s y = .rv (.v (.int k (l : Int)))) (hh : (hi = none ∧ h = es.length) ∨ ∃ y k, hi = some y ∧ aval G s y = .rv (.v (.int k (h : Int)))) (h1 : l ≤ h) (h2 : h ≤ es.length)
    {fs : List (List RV)} (hfs : (es.take h).drop l = fs) : VStep P G o s (.rv (.sl n fs)) :=
  fun _ a w β ro hr => by
    obtain ⟨e, hu, hsz⟩ := elemSize_run ht
    have hX := hr.eval x
    rw [hx] at hX
    generalize hc : a.eval x = c at hX
    cases hX with
    | rv _ _ hX =>
      cases hX with
      | sl _ _ b cap f g1 g2 g3 g4 g5 =>
        have hb := run_sliceBounds_lh (P := P) (cap := cap) (len := es.length) (isS := true) (lo := lo.map a.eval) (hi := hi.map a.eval) (mx := none) (l := l) (h := h) (m := cap) (.inl ⟨rfl, rfl⟩)
          (by rcases hh with ⟨rfl, rfl⟩ | ⟨y, k, rfl, hy⟩
              · exact .inl ⟨rfl, rfl, rfl⟩
              · exact .inr ⟨k, by simp [hr.evalV hy]⟩)
          (by rcases hl with ⟨rfl, rfl⟩ | ⟨y, k, rfl, hy⟩
              · exact .inl ⟨rfl, rfl⟩
              · exact .inr ⟨k, by simp [hr.evalV hy]⟩) h1 (by omega) (Nat.le_refl _) w
        have hlen : fs.length = h - l := by rw [← hfs]; simp; omega
        refine ⟨.slice (if cap = l then b else Option.map (fun x => x.add (l * n)) b) (h - l) (cap - l), ?_, .rv _ _ ?_⟩
        · simp only [execOp, ho, Sem.run_bind, hc, Instr.sliceAt, run_underlying hu, Result.andThen_ok, Instr.slice, Option.map_none, hb, hsz, Sem.run_pure]
        · rw [← hlen]
          have hmem : ∀ e ∈ fs, e.length = n := fun e he => g3 e (by rw [← hfs] at he; exact List.mem_of_mem_take (List.mem_of_mem_drop he))
          have hat : ∀ i, i < fs.length → fs[i]? = es[l + i]? := fun i hi => by
            rw [← hfs, List.getElem?_drop, List.getElem?_take, if_pos (by omega)]
          refine .sl n fs _ (cap - l) (fun j => f (l * n + j)) (by omega) (by omega) hmem (fun hp => ?_) (fun j x hj => ?_)
          · obtain ⟨ad, rfl, hcell⟩ := g4 (by omega)
            refine ⟨ad.add (l * n), by rw [if_neg (by omega)]; rfl, fun j hj => ?_⟩
            rw [addB, addAdd]
            refine hcell _ ?_
            have : (l + fs.length) * n ≤ es.length * n := Nat.mul_le_mul_right n (by omega)
            rw [Nat.add_mul] at this
            omega
          · have hnpos : 0 < n := by
              rcases Nat.eq_zero_or_pos n with h0 | h0
              · have := (List.getElem?_eq_some_iff.1 hj).1
                rw [length_flatten_of hmem, h0] at this
                simp at this
              · exact h0
            have hjl : j < fs.length * n := by have := (List.getElem?_eq_some_iff.1 hj).1; rwa [length_flatten_of hmem] at this
            have hm : j = (j / n) * n + j % n := by rw [Nat.mul_comm]; exact (Nat.div_add_mod j n).symm
            have hmn : j % n < n := Nat.mod_lt _ hnpos
            have hdl : j / n < fs.length := by rw [Nat.div_lt_iff_lt_mul hnpos]; exact hjl
            have he : fs[j / n]? = some fs[j / n] := List.getElem?_eq_getElem hdl
            have hj' := hj
            rw [hm, flatten_at hmem he (j % n) hmn] at hj'
            refine g5 _ x ?_
            have e1 : l * n + j = (l + j / n) * n + j % n := by rw [Nat.add_mul]; omega
            rw [e1, flatten_at g3 (i := l + j / n) (e := fs[j / n]) (by rw [← hat _ hdl]; exact he) (j % n) hmn]
            exact hj'

theorem R_slice00 (t : TypeId) (x y z : Operand) (ho : o.op = .slice t x none (some y) (some z)) {e n : Nat} (hu : P.underlying t = some (.slice e)) (hsz : (P.info? e).map (·.size) = some n) {m : Nat} (hx : alen s.heap (aval G s x) = some m)
    {k k' : IntKind} (hy : aval G s y = .rv (.v (.int k 0))) (hz : aval G s z = .rv (.v (.int k' 0))) (hb : s.base ≤ s.next) :
    OpStep P G o s ({ s with heap := (s.next, .row false e n []) :: s.heap, next := s.next + 1 }.put o.dst (.sl s.next)) := by
  intro E a w ⟨β, ro, hr⟩ K Q hK
  obtain ⟨b, cap, hc⟩ := alen_rel hr.heap (hr.eval x) hx
  have hbd := run_sliceBounds_lh (P := P) (cap := cap) (len := m) (isS := true) (lo := none) (hi := some (.int k 0)) (mx := some (.int k' 0)) (l := 0) (h := 0) (m := 0) (.inr ⟨k', rfl⟩) (.inr ⟨k, rfl⟩) (.inl ⟨rfl, rfl⟩) (Nat.le_refl _) (Nat.le_refl _) (Nat.zero_le _) w
  have hs : (sizeOf e).run P w = .ok n w := by
    cases hi : P.info? e with
    | none => simp [hi] at hsz
    | some i => simp [hi] at hsz; simp [sizeOf, typeInfo, hi, hsz]
  unfold Oper.wp
  simp only [execOp, ho, Sem.run_bind, hc, Instr.sliceAt, run_underlying hu, Result.andThen_ok, Instr.slice, Option.map_some, Option.map_none, hr.evalV hy, hr.evalV hz, hbd, hs, Sem.run_pure, if_true, Nat.sub_self]
  have hnone : hget s.heap s.next = none := by
    cases hg : hget s.heap s.next with
    | none => rfl
    | some p => have := hr.trans.new _ _ hg; omega
  refine hK _ _ ⟨upd β s.next (.slice b 0 0), ro, RelAt.put (hr.new (w' := w) s.next hnone hb (Nat.le_refl _) (.row false e n []) (.slice b 0 0) rfl rfl rfl (Nat.le_refl _) (fun _ _ => rfl) (fun c hc => ?_) rfl ?_) o.dst _ _ ?_⟩
  · cases b <;> simp [blk] at hc
  · exact .row e n [] [] (by rw [upd_same]; exact ⟨by simp, .inl ⟨⟨b, rfl⟩, rfl⟩⟩) (by simp) (by simp)
  · exact .sl _ _ (Nat.lt_succ_self _) fun z t' n' es' _ => (upd_same _ _ _).symm

theorem R_slice_str (t : TypeId) (x : Operand) (lo hi : Option Operand) (ho : o.op = .slice t x lo hi none) (ht : P.underlying t = some .string) {b : ByteArray} (hx : aval G s x = .rv (.v (.string b))) {l h : Nat}
    (hl : (lo = none ∧ l = 0) ∨ ∃ y k, lo = some y ∧ aval G s y = .rv (.v (.int k (l : Int)))) (hh : (hi = none ∧ h = b.size) ∨ ∃ y k, hi = some y ∧ aval G s y = .rv (.v (.int k (h : Int)))) (h1 : l ≤ h) (h2 : h ≤ b.size) :
    VStep P G o s (.rv (.v (.string (b.extract l h)))) :=
  fun _ a w β ro hr => by
    have hb := run_sliceBounds_lh (P := P) (cap := b.size) (len := b.size) (isS := false) (lo := lo.map a.eval) (hi := hi.map a.eval) (mx := none) (l := l) (h := h) (m := b.size) (.inl ⟨rfl, rfl⟩)
      (by rcases hh with ⟨rfl, rfl⟩ | ⟨y, k, rfl, hy⟩
          · exact .inl ⟨rfl, rfl, rfl⟩
          · exact .inr ⟨k, by simp [hr.evalV hy]⟩)
      (by rcases hl with ⟨rfl, rfl⟩ | ⟨y, k, rfl, hy⟩
          · exact .inl ⟨rfl, rfl⟩
          · exact .inr ⟨k, by simp [hr.evalV hy]⟩) h1 h2 (Nat.le_refl _) w
    exact ⟨_, by simp [execOp, ho, hr.evalV hx, Instr.sliceAt, run_underlying ht, Instr.slice, hb], .ofV rfl⟩

theorem R_convert_int (src dst : TypeId) (x : Operand) (ho : o.op = .convert src dst x) (hs : (P.underlying src).isSome = true) {k' : IntKind} (hd : P.underlying dst = some (.int k')) {k : IntKind} {n : Int} (hx : aval G s x = .rv (.v (.int k n))) :
    VStep P G o s (.rv (.v (.int k' (k'.wrap n)))) :=
  fun _ a w β ro hr => by
    cases hu : P.underlying src with
    | none => simp [hu] at hs
    | some d => exact ⟨_, by simp [execOp, ho, hr.evalV hx, convert, run_underlying hu, run_underlying hd, Conv.intToInt], .ofV rfl⟩

theorem R_min2 (x y : Operand) (ts : Array TypeId) (ho : o.op = .call { callee := .builtin .min, args := #[x, y], argTypes := ts }) {k : IntKind} {m n : Int} (hx : aval G s x = .rv (.v (.int k m))) (hy : aval G s y = .rv (.v (.int k n))) :
    VStep P G o s (.rv (.v (.int k (if n < m then n else m)))) :=
  fun _ a w β ro hr => ⟨.int k (if n < m then n else m), by simp [execOp, ho, resolve, invoke, builtin, hr.evalV hx, hr.evalV hy, run_min_int2], .ofV rfl⟩
theorem R_max2 (x y : Operand) (ts : Array TypeId) (ho : o.op = .call { callee := .builtin .max, args := #[x, y], argTypes := ts }) {k : IntKind} {m n : Int} (hx : aval G s x = .rv (.v (.int k m))) (hy : aval G s y = .rv (.v (.int k n))) :
    VStep P G o s (.rv (.v (.int k (if n > m then n else m)))) :=
  fun _ a w β ro hr => ⟨.int k (if n > m then n else m), by simp [execOp, ho, resolve, invoke, builtin, hr.evalV hx, hr.evalV hy, run_max_int2], .ofV rfl⟩

theorem R_concat (tx ty : TypeId) (x y : Operand) (ho : o.op = .binOp .add tx x y ty) {u v : ByteArray} (hx : aval G s x = .rv (.v (.string u))) (hy : aval G s y = .rv (.v (.string v))) (hsz : u.size + v.size ≤ 9223372036854775807) :
    VStep P G o s (.rv (.v (.string (u ++ v)))) :=
  R_bin .add tx ty x y ho hx hy (by
    simp only [binV]
    rw [if_neg (by simp only [IntKind.max_i64]; omega)])
end
end Go.Av
namespace Go.Av
open Go

def putS (s : St) (o : Oper) (v : AV) : Option St := some (s.put o.dst v)

def isStr (P : Program) (t : TypeId) : Bool :=
 match P.underlying t with
 | some .string => true
 | _ => false
def isBoolT (P : Program) (t : TypeId) : Bool :=
 match P.underlying t with
 | some .bool => true
 | _ => false
theorem isStr_spec {P : Program} {t : TypeId} (h : isStr P t = true) : P.underlying t = some .string := by
 unfold isStr at h
 split at h
 ·assumption
 ·cases h
theorem isBoolT_spec {P : Program} {t : TypeId} (h : isBoolT P t = true) : P.underlying t = some .bool := by
 unfold isBoolT at h
 split at h
 ·assumption
 ·cases h

def abuiltin (P : Program) (G : Glob) (b : Builtin) (xs : List Operand) (ts : List TypeId) (s : St) : Option AV :=
 match b, xs, ts with
 | .len, [x], [t] => match alen s.heap (aval G s x) with
  | some m => if isSlice P t then some (.rv (.v (.int .i64 (m : Int)))) else none
  | none => match aval G s x with
   | .rv (.v (.string b)) => if isStr P t then some (.rv (.v (.int .i64 (b.size : Int)))) else none
   | _ => match arrLen P t with
    | some n => some (.rv (.v (.int .i64 (n : Int))))
    | none => none
 | .min, [x, y], _ => match aval G s x, aval G s y with
  | .rv (.v (.int k m)), .rv (.v (.int k' n)) => if k = k' then some (.rv (.v (.int k (if n < m then n else m)))) else none
  | _, _ => none
 | .max, [x, y], _ => match aval G s x, aval G s y with
  | .rv (.v (.int k m)), .rv (.v (.int k' n)) => if k = k' then some (.rv (.v (.int k (if n > m then n else m)))) else none
  | _, _ => none
 | _, _, _ => none

def vstep (P : Program) (G : Glob) (o : Oper) (s : St) : Option AV :=
  match o.op with
  | .move x => some (aval G s x)
  | .assign x => some (aval G s x)
  | .load t x => match acells s.heap (aval G s x) with
    | some cs => match aggSize P t with
      | some n => if n ≤ cs.length ∧ 0 < n then some (.agg (cs.take n)) else none
      | none => if scalar P t then match cs with
        | y :: _ => some y
        | [] => none
        else none
    | none => none
  | .fieldAddr t x f => match fldOff P t f, ptrA s.heap (aval G s x) with
    | some k, true => some (shiftP k (aval G s x))
    | _, _ => none
  | .nilCheck x => match ptrA s.heap (aval G s x) with
    | true => some (aval G s x)
    | false => none
  | .field t x f => match aval G s x, fldPart P t f with
    | .agg cs, some (off, none) => match cs[off]? with
      | some v => some v
      | none => none
    | .agg cs, some (off, some n) => if off + n ≤ cs.length then some (.agg ((cs.drop off).take n)) else none
    | _, _ => none
  | .indexAddr t x i => match aval G s i with
    | .rv (.v (.int _ (.ofNat j))) => match elemSize P t with
      | some n => match aelem s.heap n j (aval G s x) with
        | some p => some p
        | none => none
      | none => match arrElem P t, acells s.heap (aval G s x) with
        | some (len, n), some _ => if j < len then match ashift (j * n) (aval G s x) with
          | some p => some p
          | none => none
          else none
        | _, _ => none
    | _ => none
  | .index t x i => match aval G s i, aval G s x with
    | .rv (.v (.int _ (.ofNat j))), .rv (.v (.string b)) => if isStr P t then match b.data.toList[j]? with
      | some u => some (.rv (.v (.int .u8 (u.toNat : Int))))
      | none => none
      else none
    | _, _ => none
  | .binOp op tx x y _ => match aval G s x, aval G s y with
    | .rv (.v (.bool u)), .rv (.v (.bool v)) => if isBoolT P tx then match op with
      | .eql => some (.rv (.v (.bool (u == v))))
      | .neq => some (.rv (.v (.bool (!(u == v)))))
      | _ => none
      else none
    | .rv (.v u), .rv (.v v) => match binV op u v with
      | some c => some (.rv (.v c))
      | none => none
    | .agg cs, .agg ds => match eqStruct P tx, avals cs, avals ds with
      | some fs, some xs, some ys => match eqFlat P 0 fs xs ys with
        | some b => match op with
          | .eql => some (.rv (.v (.bool b)))
          | .neq => some (.rv (.v (.bool (!b))))
          | _ => none
        | none => none
      | _, _, _ => none
    | _, _ => none
  | .unOp op _ x => match op, aval G s x with
    | .not, .rv (.v (.bool b)) => some (.rv (.v (.bool (!b))))
    | .neg, .rv (.v (.int k n)) => some (.rv (.v (.int k (k.wrap (0 - n)))))
    | _, _ => none
  | .pick c x y => match aval G s c with
    | .rv (.v (.bool true)) => some (aval G s x)
    | .rv (.v (.bool false)) => some (aval G s y)
    | _ => none
  | .extract x i => match aval G s x with
    | .tuple cs => match cs[i]? with
      | some v => some v
      | none => none
    | _ => none
  | .build t parts => match places P t, zeroCells P t with
    | some pl, some zs => if zs.all Value.oneCell' ∧ (parts.toList.map fun p => (p.1, aval G s p.2)).all (fun p => (vcells p.2).all (cellOkIn s.heap)) then
        match afill pl (zs.map fun z => .rv (.v z)) (parts.toList.map fun p => (p.1, aval G s p.2)) with
        | some ds => some (.agg ds)
        | none => none
      else none
    | _, _ => none
  | .call c => match c.callee with
    | .builtin b => abuiltin P G b c.args.toList c.argTypes.toList s
    | _ => none
  | .convert src dst x => match aval G s x, P.underlying dst with
    | .rv (.v (.int _ n)), some (.int k') => if (P.underlying src).isSome then some (.rv (.v (.int k' (k'.wrap n)))) else none
    | _, _ => none
  | _ => none

def astep (P : Program) (G : Glob) (o : Oper) (s : St) : Option St :=
 match vstep P G o s with
 | some v => putS s o v
 | none => match o.op with
  | .store t p x => match aval G s p with
   | .ptr id off => match hget s.heap id with
    | some (.box bt cs) => if (vcells (aval G s x)).all (cellOkIn s.heap) ∧ (P.info? t).map (·.size) = some (vcells (aval G s x)).length ∧ off + (vcells (aval G s x)).length ≤ cs.length
     then putS { s with heap := hset s.heap id (.box bt (splice cs off (vcells (aval G s x)))) } o .top else none
    | _ => none
   | .eptr id i off => match hget s.heap id with
    | some (.row false bt n es) => match es[i]?, rvs (vcells (aval G s x)) with
     | some e, some vs => if (P.info? t).map (·.size) = some vs.length ∧ off + vs.length ≤ n then putS { s with heap := hset s.heap id (.row false bt n (es.set i (splice e off vs))) } o .top else none
     | _, _ => none
    | _ => none
   | _ => none
  | .alloc t => match zeroCells P t with
   | some zs => if zs.all Value.oneCell' ∧ s.base ≤ s.next then putS { s with heap := (s.next, .box t (zs.map fun z => .rv (.v z))) :: s.heap, next := s.next + 1 } o (.ptr s.next 0) else none
   | none => none
  | .box t x => if (vcells (aval G s x)).all (cellOkIn s.heap) ∧ s.base ≤ s.next then putS { s with heap := (s.next, .box t (vcells (aval G s x))) :: s.heap, next := s.next + 1 } o (.ptr s.next 0) else none
  | _ => none

section
variable {P : Program} {G : Glob} {o : Oper} {s s' : St} {v : AV}

theorem abuiltin_sound {b : Builtin} {args : Array Operand} {ts : Array TypeId} (ho : o.op = .call { callee := .builtin b, args, argTypes := ts }) (h : abuiltin P G b args.toList ts.toList s = some v) : VStep P G o s v := by
 unfold abuiltin at h
 split at h
 ·rename_i x t ha htt
  have e1 : args = #[x] := by apply Array.ext'; simpa using ha
  have e2 : ts = #[t] := by apply Array.ext'; simpa using htt
  subst e1 e2
  split at h
  ·rename_i m hm
   split at h
   ·rename_i ht
    simp only [Option.some.injEq] at h; subst h; exact R_len x t ho ht hm
   ·cases h
  ·split at h
   ·rename_i b hx
    split at h
    ·rename_i ht
     simp only [Option.some.injEq] at h; subst h; exact R_len_str x t ho (isStr_spec ht) hx
    ·cases h
   ·split at h
    ·rename_i n hn
     simp only [Option.some.injEq] at h; subst h; exact R_len_arr x t ho hn
    ·cases h
 ·rename_i x y ha
  have e1 : args = #[x, y] := by apply Array.ext'; simpa using ha
  subst e1
  split at h
  ·rename_i k m k' n hx hy
   split at h
   ·rename_i hk
    subst hk
    simp only [Option.some.injEq] at h; subst h; exact R_min2 x y ts ho hx hy
   ·cases h
  ·cases h
 ·rename_i x y ha
  have e1 : args = #[x, y] := by apply Array.ext'; simpa using ha
  subst e1
  split at h
  ·rename_i k m k' n hx hy
   split at h
   ·rename_i hk
    subst hk
    simp only [Option.some.injEq] at h; subst h; exact R_max2 x y ts ho hx hy
   ·cases h
  ·cases h
 ·cases h

theorem vstep_sound (h : vstep P G o s = some v) : VStep P G o s v := by
 unfold vstep at h
 split at h
 ·rename_i x ho
  simp only [Option.some.injEq] at h; subst h; exact R_move x ho
 ·rename_i x ho
  simp only [Option.some.injEq] at h; subst h; exact R_assign x ho
 ·rename_i t x ho
  split at h
  ·rename_i cs hc
   split at h
   ·rename_i n hn
    split at h
    ·rename_i hl
     simp only [Option.some.injEq] at h; subst h; exact R_load_agg t x ho hn hc hl.1 hl.2
    ·cases h
   ·split at h
    ·rename_i hs
     split at h
     ·simp only [Option.some.injEq] at h; subst h; exact R_load t x ho hs hc
     ·cases h
    ·cases h
  ·cases h
 ·rename_i t x f ho
  split at h
  ·rename_i k hk hc
   simp only [Option.some.injEq] at h; subst h; exact R_fieldAddrP t x f ho hk hc
  ·cases h
 ·rename_i x ho
  split at h
  ·rename_i hc
   simp only [Option.some.injEq] at h; subst h; exact R_nilCheckP x ho hc
  ·cases h
 ·rename_i t x f ho
  split at h
  ·rename_i cs off hx ht
   split at h
   ·rename_i v hv
    simp only [Option.some.injEq] at h; subst h; exact R_field t x f ho ht hx hv
   ·cases h
  ·rename_i cs off n hx ht
   split at h
   ·rename_i hn
    simp only [Option.some.injEq] at h; subst h; exact R_field_agg t x f ho ht hx hn
   ·cases h
  ·cases h
 ·rename_i t x i ho
  split at h
  ·rename_i k j hi
   split at h
   ·rename_i n hn
    split at h
    ·rename_i p hp
     simp only [Option.some.injEq] at h; subst h; exact R_indexAddr t x i ho hn hi hp
    ·cases h
   ·split at h
    ·rename_i len n cs ht hcs
     split at h
     ·rename_i hj
      split at h
      ·rename_i p hp
       simp only [Option.some.injEq] at h; subst h; exact R_indexAddr_arr t x i ho ht hi hj hcs hp
      ·cases h
     ·cases h
    ·cases h
  ·cases h
 ·rename_i t x i ho
  split at h
  ·rename_i k j b hi hx
   split at h
   ·rename_i ht
    split at h
    ·rename_i u hu
     simp only [Option.some.injEq] at h; subst h; exact R_index_str t x i ho (isStr_spec ht) hi hx hu
    ·cases h
   ·cases h
  ·cases h
 ·rename_i op tx x y ty ho
  split at h
  ·rename_i u v hx hy
   split at h
   ·rename_i ht
    split at h
    ·simp only [Option.some.injEq] at h; subst h; exact R_eql_bool tx ty x y ho (isBoolT_spec ht) hx hy
    ·simp only [Option.some.injEq] at h; subst h; exact R_neq_bool tx ty x y ho (isBoolT_spec ht) hx hy
    ·cases h
   ·cases h
  ·rename_i u v _ hx hy
   split at h
   ·rename_i c hc
    simp only [Option.some.injEq] at h; subst h; exact R_bin _ tx ty x y ho hx hy hc
   ·cases h
  ·rename_i cs ds hx hy
   split at h
   ·rename_i fs xs ys hf hxs hys
    split at h
    ·rename_i b hb
     split at h
     ·simp only [Option.some.injEq] at h; subst h; exact R_eql_agg tx ty x y ho hf hx hy hxs hys hb
     ·simp only [Option.some.injEq] at h; subst h; exact R_neq_agg tx ty x y ho hf hx hy hxs hys hb
     ·cases h
    ·cases h
   ·cases h
  ·cases h
 ·rename_i op t x ho
  split at h
  ·rename_i b hx
   simp only [Option.some.injEq] at h; subst h; exact R_not t x ho hx
  ·rename_i k n hx
   simp only [Option.some.injEq] at h; subst h; exact R_neg t x ho hx
  ·cases h
 ·rename_i c x y ho
  split at h
  ·rename_i hc
   simp only [Option.some.injEq] at h; subst h; exact R_pick c x y ho hc rfl
  ·rename_i hc
   simp only [Option.some.injEq] at h; subst h; exact R_pick c x y ho hc rfl
  ·cases h
 ·rename_i x i ho
  split at h
  ·rename_i cs hx
   split at h
   ·rename_i v hv
    simp only [Option.some.injEq] at h; subst h; exact R_extract x i ho hx hv
   ·cases h
  ·cases h
 ·rename_i t parts ho
  split at h
  ·rename_i pl zs hp hz
   split at h
   ·rename_i hc
    split at h
    ·rename_i ds hf
     simp only [Option.some.injEq] at h; subst h; exact R_build t parts ho hp hz hc.1 rfl hc.2 hf
    ·cases h
   ·cases h
  ·cases h
 ·rename_i c ho
  split at h
  ·rename_i b hb
   obtain ⟨callee, args, ts⟩ := c
   simp only at hb h
   subst hb
   exact abuiltin_sound ho h
  ·cases h
 ·rename_i src dst x ho
  split at h
  ·rename_i k n k' hx hd
   split at h
   ·rename_i hs
    simp only [Option.some.injEq] at h; subst h; exact R_convert_int src dst x ho hs hd hx
   ·cases h
  ·cases h
 ·cases h



theorem astep_sound (h : astep P G o s = some s') : OpStep P G o s s' := by
 unfold astep at h
 split at h
 ·rename_i v hv
  simp only [putS, Option.some.injEq] at h
  subst h
  exact (vstep_sound hv).step
 ·split at h
  ·rename_i t p x ho
   split at h
   ·rename_i id off hp
    split at h
    ·rename_i bt cs hg
     split at h
     ·rename_i hc
      simp only [putS, Option.some.injEq] at h; subst h; exact R_store t p x ho hp hg rfl hc.1 hc.2.1 hc.2.2
     ·cases h
    ·cases h
   ·rename_i id i off hp
    split at h
    ·rename_i bt n es hg
     split at h
     ·rename_i e vs he hv
      split at h
      ·rename_i hc
       simp only [putS, Option.some.injEq] at h; subst h; exact R_store_row t p x ho hp hg he hv hc.1 hc.2
      ·cases h
     ·cases h
    ·cases h
   ·cases h
  ·rename_i t ho
   split at h
   ·rename_i zs hz
    split at h
    ·rename_i hc
     simp only [putS, Option.some.injEq] at h; subst h; exact R_alloc t ho hc.2 hz hc.1
    ·cases h
   ·cases h
  ·rename_i t x ho
   split at h
   ·rename_i hc
    simp only [putS, Option.some.injEq] at h; subst h; exact R_box t x ho hc.2 hc.1
   ·cases h
  ·cases h

def gwant (ops : Array Oper) (s : St) (o : Oper) : Option Bool :=
 match o.guard with
 | none => some true
 | some (j, b) => match gslot ops j with
  | some d => match s.slots[d]? with
   | some (.rv (.v (.bool c))) => some (match b, c with
    | true, true => true
    | false, false => true
    | _, _ => false)
   | some (.tuple _) => some false
   | _ => none
  | none => none

def aops (P : Program) (G : Glob) (ops : Array Oper) : Nat → List Oper → St → Option St
 | 0, _, s => some s
 | n + 1, o :: r, s => match gwant ops s o with
  | some true => match astep P G o s with
   | some s' => aops P G ops n r s'
   | none => none
  | some false => aops P G ops n r (s.put o.dst (.tuple []))
  | none => none
 | _ + 1, [], _ => none

variable {Q : Exit → St → Prop}

theorem AOps.step {ops : Array Oper} {rest : List Oper} (hg : gwant ops s o = some true) (h : OpStep P G o s s') (k : AOps P G ops Q rest s') : AOps P G ops Q (o :: rest) s := by
 unfold gwant at hg
 split at hg
 ·rename_i hn
  exact AOps.cons hn h k
 ·rename_i j b hn
  split at hg
  ·rename_i d hd
   split at hg
   ·rename_i c hs
    simp only [Option.some.injEq] at hg
    have hbc : b = c := by cases b <;> cases c <;> simp_all
    subst hbc
    exact AOps.guarded hn hd hs h k
   ·cases hg
   ·cases hg
  ·cases hg

theorem AOps.pass {ops : Array Oper} {rest : List Oper} (hg : gwant ops s o = some false) (k : AOps P G ops Q rest (s.put o.dst (.tuple []))) : AOps P G ops Q (o :: rest) s := by
 unfold gwant at hg
 split at hg
 ·cases hg
 ·rename_i j b hn
  split at hg
  ·rename_i d hd
   split at hg
   ·rename_i c hs
    simp only [Option.some.injEq] at hg
    have hbc : c = !b := by cases b <;> cases c <;> simp_all
    subst hbc
    exact AOps.skipped hn hd hs k
   ·rename_i cs hs
    exact AOps.skippedN hn hd hs k
   ·cases hg
  ·cases hg

theorem AOps.run {ops : Array Oper} : ∀ (n : Nat) {l : List Oper} {s s' : St}, aops P G ops n l s = some s' → AOps P G ops Q (l.drop n) s' → AOps P G ops Q l s
 | 0, l, s, s', h, k => by
  simp [aops] at h
  subst h
  exact k
 | n + 1, [], s, s', h, k => by simp [aops] at h
 | n + 1, o :: r, s, s', h, k => by
  simp only [aops] at h
  split at h
  ·rename_i hg
   split at h
   ·rename_i s1 h1
    exact AOps.step hg (astep_sound h1) (AOps.run n h k)
   ·cases h
  ·rename_i hg
   exact AOps.pass hg (AOps.run n h k)
  ·cases h

end
end Go.Av
namespace Go.Av
open Go

abbrev vi (n : Int) : AV := .rv (.v (.int .i64 n))
abbrev vb (b : Bool) : AV := .rv (.v (.bool b))
abbrev vs (s : ByteArray) : AV := .rv (.v (.string s))
abbrev avs (l : List RV) : List AV := l.map .rv
abbrev strC (s : ByteArray) : List RV := [.v (.string s)]
abbrev boolC (b : Bool) : List RV := [.v (.bool b)]

def mkSl : Nat → Nat → List (Nat × AV) → List AV
 | _, 0, _ => []
 | i, k + 1, [] => .top :: mkSl (i + 1) k []
 | i, k + 1, (j, v) :: r => if i = j then v :: mkSl (i + 1) k r else .top :: mkSl (i + 1) k ((j, v) :: r)
theorem aelem_map {α : Type} {σ : Heap} {n k : Nat} {l : List α} {f : α → List RV} {e : α} (h : l[k]? = some e) : aelem σ n k (.rv (.sl n (l.map f))) = some (.rv (.ptr (f e))) := by
 simp [aelem, h]
theorem alen_map {α : Type} {σ : Heap} {n : Nat} {l : List α} {f : α → List RV} : alen σ (.rv (.sl n (l.map f))) = some l.length := by
 simp [alen]

theorem wrap64_of (n : Int) (h1 : -9223372036854775808 ≤ n) (h2 : n ≤ 9223372036854775807) : IntKind.i64.wrap n = n := by
 rw [IntKind.wrap_i64]; omega
theorem hget_nil {σ : Heap} : ∀ (id : Nat) (o : AObj), hget [] id = some o → hget σ id = some o := by
 intro id o h; cases h
theorem hget_one {σ : Heap} {k : Nat} {p : AObj} (hk : hget σ k = some p) : ∀ (id : Nat) (o : AObj), hget [(k, p)] id = some o → hget σ id = some o := by
 intro id o h
 simp only [hget] at h
 split at h
 ·rename_i he
  subst he
  rw [hk]
  exact h
 ·cases h

theorem AOps.split {P : Program} {G : Glob} {ops : Array Oper} {Q : Exit → St → Prop} {l : List Oper} {s : St} (b : Bool) (ht : b = true → AOps P G ops Q l s) (hf : b = false → AOps P G ops Q l s) : AOps P G ops Q l s := by
 cases b
 ·exact hf rfl
 ·exact ht rfl
theorem AWp.split {P : Program} {G : Glob} {Q : Exit → St → Prop} {c : Code} {s : St} (b : Bool) (ht : b = true → AWp P G c Q s) (hf : b = false → AWp P G c Q s) : AWp P G c Q s := by
 cases b
 ·exact hf rfl
 ·exact ht rfl

def viewH (σ : Heap) : Heap → Heap
 | [] => []
 | (k, .box t cs) :: r => (k, .box t (viewL σ cs)) :: viewH σ r
 | (k, .row z t n es) :: r => (k, .row z t n es) :: viewH σ r
 | (k, .oth Φ) :: r => (k, .oth Φ) :: viewH σ r

def viewO (σ : Heap) : AObj → AObj
 | .box t cs => .box t (viewL σ cs)
 | .row z t n es => .row z t n es
 | .oth Φ => .oth Φ

theorem hget_viewH (σ : Heap) : ∀ (h : Heap) (k : Nat), hget (viewH σ h) k = (hget h k).map (viewO σ)
 | [], k => by simp [viewH, hget]
 | (j, .box t cs) :: r, k => by
  by_cases hj : j = k
  ·simp [viewH, hget, hj, viewO]
  ·simp [viewH, hget, hj, hget_viewH σ r k]
 | (j, .row z t n es) :: r, k => by
  by_cases hj : j = k
  ·simp [viewH, hget, hj, viewO]
  ·simp [viewH, hget, hj, hget_viewH σ r k]
 | (j, .oth Φ) :: r, k => by
  by_cases hj : j = k
  ·simp [viewH, hget, hj, viewO]
  ·simp [viewH, hget, hj, hget_viewH σ r k]

theorem RowIs.asRV {w : World} {ro : Nat → Prop} {t : TypeId} {n : Nat} {v : Value} {es : List (List RV)} {xs : List Value} (h : RowIs w t n v es.length xs) (hn : ∀ e ∈ es, e.length = n) (hc : ∀ j x, es.flatten[j]? = some x → RRel w ro x (xs.getD j undef))
    (hro : ∀ b, blk v = some b → ro b) : RRel w ro (.sl n es) v := by
  rcases h.2 with ⟨⟨b, hv⟩, hz⟩ | ⟨g, cap, cur, hv, hp, hg, hle, hcm, hcs, htake⟩
  · subst hv
    have : es = [] := List.eq_nil_of_length_eq_zero hz
    subst this
    exact .sl n [] b 0 (fun _ => undef) (by simp) (Nat.zero_le _) (by simp) (by simp) (by simp)
  · subst hv
    refine .sl n es _ cap (fun j => xs.getD j undef) hle hcm hn (fun _ => ⟨⟨g, 0, none⟩, rfl, fun j hj => ⟨hro g (by simp [blk, Nat.ne_of_gt hp]), ?_⟩⟩) hc
    rw [addLit, Nat.zero_add, cell_of_row w g j cur t (0, 0) hg]
    have hx : xs[j]? = cur[j]? := by rw [← htake, List.getElem?_take, if_pos hj]; simp
    have hxl : j < xs.length := by rw [h.1]; exact hj
    rw [← hx]
    simp [List.getD, List.getElem?_eq_getElem hxl]

def frz (s : St) (id : Nat) : St :=
 match hget s.heap id with
 | some (.row false t n es) => ⟨viewL [(id, .row true t n es)] s.slots, viewH [(id, .row true t n es)] (hdel s.heap id), s.next, s.base⟩
 | _ => s

theorem Le.frz (s : St) (id : Nat) : Le s (frz s id) := by
 unfold Go.Av.frz
 split
 ·rename_i t n es hid
  intro E G a w ⟨β, ro, h⟩
  have hO := h.heap.objs id _ hid
  cases hO with
  | row _ _ _ xs hrow hn hc =>
   -- the immutable blocks, and this one
   have hrv : RRel w (fun b => ro b ∨ blk (β id) = some b) (.sl n es) (β id) := hrow.asRV hn (fun j x hj => (hc j x hj).keep (fun _ _ => rfl) fun _ h => .inl h) fun b hb => .inr hb
   have hsub : ∀ k o, hget (hdel s.heap id) k = some o → hget s.heap k = some o ∧ k ≠ id := by
    intro k o hk
    rw [hget_hdel] at hk
    split at hk
    ·cases hk
    ·rename_i hne
     exact ⟨hk, fun e => hne e.symm⟩
   have view : ∀ x c, ARel w ro s.heap β s.next x c → ARel w (fun b => ro b ∨ blk (β id) = some b) (viewH [(id, .row true t n es)] (hdel s.heap id)) β s.next (viewA [(id, .row true t n es)] x) c := by
    intro x c hx
    induction hx with
    | rv x c hx => exact .rv x c (hx.keep (fun _ _ => rfl) fun _ h => .inl h)
    | agg cs c h1 _ ih =>
     refine .agg _ c (by rw [viewL_length]; exact h1) fun j x hj => ?_
     obtain ⟨y, hy, rfl⟩ := viewL_at _ hj
     exact ih j y hy
    | tuple cs c h1 _ ih =>
     refine .tuple _ c (by rw [viewL_length]; exact h1) fun j x hj => ?_
     obtain ⟨y, hy, rfl⟩ := viewL_at _ hj
     exact ih j y hy
    | ptr k off c hl hp =>
     refine .ptr k off c hl fun t' cs' hg => ?_
     rw [hget_viewH] at hg
     cases hk : hget (hdel s.heap id) k with
     | none => simp [hk] at hg
     | some p =>
      cases p with
      | box t2 cs2 => exact hp t2 cs2 (hsub k _ hk).1
      | row => simp [hk, viewO] at hg
      | oth => simp [hk, viewO] at hg
    | eptr k i off c hl hp =>
     refine .eptr k i off c hl fun z' t' n' es' hg => ?_
     rw [hget_viewH] at hg
     cases hk : hget (hdel s.heap id) k with
     | none => simp [hk] at hg
     | some p =>
      cases p with
      | box t2 cs2 => simp [hk, viewO] at hg
      | oth => simp [hk, viewO] at hg
      | row z2 t2 n2 es2 =>
       simp only [hk, viewO, Option.map_some, Option.some.injEq, AObj.row.injEq] at hg
       obtain ⟨rfl, rfl, rfl, rfl⟩ := hg
       exact hp _ _ _ _ (hsub k _ hk).1
    | sl k c hl hp =>
     simp only [viewA, hget]
     by_cases hk : id = k
     ·subst hk
      simp only [if_true]
      rw [hp _ _ _ _ hid]
      exact .rv _ _ hrv
     ·simp only [if_neg hk]
      refine .sl k c hl fun z' t' n' es' hg => ?_
      rw [hget_viewH] at hg
      cases hk' : hget (hdel s.heap id) k with
      | none => simp [hk'] at hg
      | some p =>
       cases p with
       | box t2 cs2 => simp [hk', viewO] at hg
       | oth => simp [hk', viewO] at hg
       | row z2 t2 n2 es2 => exact hp _ _ _ _ (hsub k _ hk').1
    | fn f p q c d h1 h2 _ _ ih1 ih2 =>
     refine .fn f _ _ c d (by rw [viewL_length]; exact h1) (by rw [viewL_length]; exact h2) (fun j x hj => ?_) (fun j x hj => ?_)
     ·obtain ⟨y, hy, rfl⟩ := viewL_at _ hj
      exact ih1 j y hy
     ·obtain ⟨y, hy, rfl⟩ := viewL_at _ hj
      exact ih2 j y hy
    | ref k c hl hp =>
     refine .ref k c hl fun Φ hg => ?_
     rw [hget_viewH] at hg
     cases hk : hget (hdel s.heap id) k with
     | none => simp [hk] at hg
     | some p =>
      cases p with
      | box => simp [hk, viewO] at hg
      | row => simp [hk, viewO] at hg
      | oth Φ' => exact hp Φ' (hsub k _ hk).1
    | top c => exact .top c
   have back : ∀ k o, hget (viewH [(id, .row true t n es)] (hdel s.heap id)) k = some o → ∃ p, hget s.heap k = some p ∧ k ≠ id ∧ p.live = o.live ∧ o = viewO [(id, .row true t n es)] p := by
    intro k o hg
    rw [hget_viewH] at hg
    cases hk : hget (hdel s.heap id) k with
    | none => simp [hk] at hg
    | some p =>
     obtain ⟨h1, h2⟩ := hsub k p hk
     refine ⟨p, h1, h2, ?_, ?_⟩
     ·simp [hk] at hg
      subst hg
      cases p <;> rfl
     ·simp [hk] at hg
      exact hg.symm
   refine ⟨β, fun b => ro b ∨ blk (β id) = some b, h.defers, by simpa [viewL_length] using h.size, fun i x hx => ?_, ⟨fun k o hg => ?_, fun k k' o o' b hg hg' hl hl' hb hb' => ?_, fun b hb => ?_, fun b hb => ?_⟩,
    h.glob.keep (fun _ _ => rfl) fun _ h => .inl h, ?_, h.base⟩
   ·obtain ⟨y, hy, rfl⟩ := viewL_at _ hx
    exact view _ _ (h.slot i y hy)
   ·obtain ⟨p, h1, h2, h3, rfl⟩ := back k o hg
    have ho := h.heap.objs k p h1
    cases ho with
    | box t' cs' b arr e1 e2 e3 e4 =>
     refine .box t' _ b arr e1 e2 (by rw [viewL_length]; exact e3) fun j x hj => ?_
     obtain ⟨y, hy, rfl⟩ := viewL_at _ hj
     exact view _ _ (e4 j y hy)
    | row t' n' es' xs' e1 e2 e3 => exact .row t' n' es' xs' e1 e2 fun j x hj => (e3 j x hj).keep (fun _ _ => rfl) fun _ h => .inl h
    | fro t' n' es' e1 => exact .fro t' n' es' (e1.keep (fun _ _ => rfl) fun _ h => .inl h)
    | oth Φ b o e1 e2 e3 => exact .oth Φ b o e1 e2 (Φ.mono _ _ _ _ (fun x c h => h.keep (fun _ _ => rfl) fun _ h => .inl h) e3)
   ·obtain ⟨p, h1, _, h3, _⟩ := back k o hg
    obtain ⟨p', h1', _, h3', _⟩ := back k' o' hg'
    exact h.heap.inj k k' p p' b h1 h1' (h3.trans hl) (h3'.trans hl') hb hb'
   ·rintro ⟨k, o, hg, hl, hbk⟩
    obtain ⟨p, h1, h2, h3, _⟩ := back k o hg
    rcases hb with hb | hb
    ·exact h.heap.disj b hb ⟨k, p, h1, h3.trans hl, hbk⟩
    ·exact h2 (h.heap.inj k id p _ b h1 hid (h3.trans hl) rfl hbk hb)
   ·rcases hb with hb | hb
    ·exact h.heap.lt b hb
    ·exact (hrow.blkLt hb).1
   ·have t' := h.trans
    refine ⟨t'.os, t'.tape, t'.output, t'.size, t'.frame, fun b hb => ?_, fun b hb => .inl (t'.roKeep b hb), ?_, fun k hk o hg => ?_, fun k o hg => ?_, t'.le⟩
    ·rcases hb with hb | hb
     ·exact t'.roSub b hb
     ·rcases t'.ownSub b ⟨id, _, hid, rfl, hb⟩ with hc | hc
      ·exact .inr (.inl hc)
      ·exact .inr (.inr hc)
    ·rintro b ⟨k, o, hg, hl, hbk⟩
     obtain ⟨p, h1, _, h3, _⟩ := back k o hg
     exact t'.ownSub b ⟨k, p, h1, h3.trans hl, hbk⟩
    ·obtain ⟨p, h1, _, _, _⟩ := back k o hg
     exact t'.old k hk p h1
    ·obtain ⟨p, h1, _, _, _⟩ := back k o hg
     exact t'.new k p h1
 ·exact Le.refl s

section
variable {P : Program} {G : Glob} {Q : Exit → St → Prop} {s s' : St}
def JoinQ (s1 : St) (Q : Exit → St → Prop) : Exit → St → Prop
 | .normal, s => Le s s1
 | e, s => Q e s
theorem AWp.join {x y : Code} (s1 : St) (hx : AWp P G x (JoinQ s1 Q) s) (k : AWp P G y Q s1) : AWp P G (.seq x y) Q s := fun E a w hr => by
 refine wp_seq (wp_mono (hx E a w hr) fun e a' w' hq => ?_)
 obtain ⟨s', h1, h2⟩ := hq
 cases e with
 | normal => exact k E a' w' (h1 E G a' w' h2)
 | _ => exact ⟨s', h1, h2⟩
def JoinP (s1 : St) (R : Prop) (Q : Exit → St → Prop) : Exit → St → Prop
 | .normal, s => Le s s1 ∧ R
 | e, s => Q e s
theorem AWp.joinP {x y : Code} (s1 : St) (R : Prop) (hx : AWp P G x (JoinP s1 R Q) s) (k : R → AWp P G y Q s1) : AWp P G (.seq x y) Q s := fun E a w hr => by
 refine wp_seq (wp_mono (hx E a w hr) fun e a' w' hq => ?_)
 obtain ⟨s', h1, h2⟩ := hq
 cases e with
 | normal => exact k h1.2 E a' w' (h1.1 E G a' w' h2)
 | _ => exact ⟨s', h1, h2⟩
end
end Go.Av
namespace Go.Av
open Go

def strIt (s : ByteArray) (pos : Nat) : Oth := ⟨fun _ v o => (∃ b, v = .pointer (some ⟨b, 0, none⟩)) ∧ o = .stringIter s pos, fun _ _ _ _ _ h => h, none, fun _ h => by cases h⟩

section
variable {P : Program} {G : Glob} {o : Oper} {s : St}

theorem run_newObj (ob : Obj) (w : World) : (newObj ob).run P w = .ok w.heap.size (w.alloc ob) := rfl
theorem run_getObj_it {w : World} {r : Nat} {b : ByteArray} {p : Nat} (h : w.heap[r]? = some (.stringIter b p)) : (getObj r).run P w = .ok (.stringIter b p) w := by simp [getObj, Sem.run, h]
theorem run_setObj_it {w : World} {r : Nat} {b : ByteArray} {p : Nat} (ob : Obj) (h : w.heap[r]? = some (.stringIter b p)) : (setObj r ob).run P w = .ok () { w with heap := w.heap.setIfInBounds r ob } := by simp [setObj, Sem.run, h]

theorem R_range_str (t : TypeId) (x : Operand) (ho : o.op = .range t x) (ht : P.underlying t = some .string) {b : ByteArray} (hx : aval G s x = .rv (.v (.string b))) (hb : s.base ≤ s.next) :
    OpStep P G o s ({ s with heap := (s.next, .oth (strIt b 0)) :: s.heap, next := s.next + 1 }.put o.dst (.ref s.next)) := by
  intro E a w ⟨β, ro, hr⟩ K Q hK
  unfold Oper.wp
  simp only [execOp, ho, hr.evalV hx, Sem.run_bind, Instr.range, run_underlying ht, Result.andThen_ok, Sem.run_pure]
  have hnone : hget s.heap s.next = none := by
    cases hg : hget s.heap s.next with
    | none => rfl
    | some p => have := hr.trans.new _ _ hg; omega
  have hnew := hr.new (w' := w.alloc (.stringIter b 0)) s.next hnone hb (Nat.le_refl _) (.oth (strIt b 0)) (.pointer (some ⟨w.heap.size, 0, none⟩)) rfl rfl rfl (by simp) (fun b hb => Go.RowKit.Below.heap_alloc w _ b hb) (fun b hb => by simp [blk] at hb; omega) rfl
    (.oth _ w.heap.size (.stringIter b 0) (by rw [upd_same]; rfl) (heap_alloc_new w _) ⟨⟨_, upd_same _ _ _⟩, rfl⟩)
  have hk := hK _ _ ⟨_, ro, hnew.put o.dst (.ref s.next) (.pointer (some ⟨w.heap.size, 0, none⟩)) (.ref _ _ (Nat.lt_succ_self _) fun Φ _ => (upd_same _ _ _).symm)⟩
  rw [run_newObj]
  exact hk

theorem R_next_end (x : Operand) (ho : o.op = .next x true) {id : Nat} (hx : aval G s x = .ref id) {b : ByteArray} {pos : Nat} (hid : hget s.heap id = some (.oth (strIt b pos))) (hp : b.size ≤ pos) :
    VStep P G o s (.tuple [.rv (.v (.bool false))]) :=
  fun E a w β ro hr => by
    have hO := hr.heap.objs id _ hid
    cases hO with
    | oth _ bl ob h1 h2 h3 =>
      obtain ⟨⟨b', hb'⟩, rfl⟩ := h3
      have hev := hr.eval x
      rw [hx] at hev
      generalize he : a.eval x = c at hev
      cases hev with
      | ref _ _ _ hc =>
        have hcv := hc _ hid
        rw [hb'] at h1 hcv
        simp only [blk, Option.some.injEq] at h1
        subst h1
        refine ⟨.tuple #[.bool false], ?_, .tuple _ _ rfl fun j y hj => ?_⟩
        · have hn : ¬ pos < b.size := by omega
          rw [hcv] at he
          simp [execOp, ho, he, Instr.next, run_getObj_it h2, hn]
        · cases j with
          | zero => simp at hj; subst hj; exact .ofV rfl
          | succ j => simp at hj

theorem R_next (x : Operand) (ho : o.op = .next x true) {id : Nat} (hx : aval G s x = .ref id) {b : ByteArray} {pos : Nat} (hid : hget s.heap id = some (.oth (strIt b pos))) (hp : pos < b.size) {c k : Nat} (hd : Utf8.decode b pos = (c, k)) :
    OpStep P G o s ({ s with heap := hset s.heap id (.oth (strIt b (pos + k))) }.put o.dst (.tuple [.rv (.v (.bool true)), .rv (.v (.int .i64 (pos : Int))), .rv (.v (.int .i32 (c : Int)))])) := by
  intro E a w ⟨β, ro, hr⟩ K Q hK
  have hO := hr.heap.objs id _ hid
  cases hO with
  | oth _ bl ob h1 h2 h3 =>
    obtain ⟨⟨b', hb'⟩, rfl⟩ := h3
    have hev := hr.eval x
    rw [hx] at hev
    generalize he : a.eval x = cv at hev
    cases hev with
    | ref _ _ _ hc =>
      have hcv := hc _ hid
      have hb2 := h1
      rw [hb'] at h1 hcv
      simp only [blk, Option.some.injEq] at h1
      subst h1
      rw [hcv] at he
      unfold Oper.wp
      have hrun : (execOp a.eval o).run P w = .ok (.value (.tuple #[.bool true, goInt pos, .int .i32 c])) { w with heap := w.heap.setIfInBounds b' (.stringIter b (pos + k)) } := by
        simp [execOp, ho, he, Instr.next, run_getObj_it h2, hp, hd, run_setObj_it _ h2]
      rw [hrun]
      have hlt := (Array.getElem?_eq_some_iff.1 h2).1
      have hw := hr.write (w' := { w with heap := w.heap.setIfInBounds b' (.stringIter b (pos + k)) }) id _ (.oth (strIt b (pos + k))) hid rfl rfl (.inr (.inr ⟨_, _, rfl, rfl⟩)) rfl rfl rfl (by simp) (fun j hj hne => by
        have : b' ≠ j := fun e => hne (by rw [hb', ← e]; rfl)
        simp [Array.getElem?_setIfInBounds_ne this]) (.oth _ b' (.stringIter b (pos + k)) hb2 (by simp [hlt]) ⟨⟨b', hb'⟩, rfl⟩)
      refine hK _ _ ⟨β, ro, hw.put o.dst _ _ (.tuple _ _ rfl fun j y hj => ?_)⟩
      match j, hj with
      | 0, hj => simp at hj; subst hj; exact .ofV rfl
      | 1, hj => simp at hj; subst hj; exact .ofV rfl
      | 2, hj => simp at hj; subst hj; exact .ofV rfl
      | j + 3, hj => simp at hj
end
end Go.Av
namespace Go.Av
open Go

section
variable {P : Program} {G : Glob} {o : Oper} {s : St} {E : Entry} {a : Act} {w w' : World} {β : Nat → Value} {ro ro' : Nat → Prop}

theorem RelAt.grow (h : RelAt E G s a w β ro) (hos : w'.os = w.os) (htape : w'.tape = w.tape) (hout : w'.output = w.output) (hsz : w.heap.size ≤ w'.heap.size) (hw : ∀ b, b < w.heap.size → w'.heap[b]? = w.heap[b]?)
    (hro : ∀ b, ro b → ro' b) (hnew : ∀ b, ro' b → ro b ∨ (w.heap.size ≤ b ∧ b < w'.heap.size)) : RelAt E G s a w' β ro' := by
  have hk : ∀ b, ro b → w'.heap[b]? = w.heap[b]? := fun b hb => hw b (h.heap.lt b hb)
  refine ⟨h.defers, h.size, fun i x hx => (h.slot i x hx).keep hk hro (Nat.le_refl _) (fun _ t cs hg => ⟨rfl, t, cs, hg⟩) (fun _ z t _ es hg => ⟨rfl, z, t, es, hg⟩) (fun _ Φ hg => ⟨rfl, Φ, hg⟩),
    ⟨fun id ob hg => (h.heap.objs id ob hg).keep hk hro (Nat.le_refl _) rfl (fun hl b hb => hw b ((h.heap.objs id ob hg).blkLt hl hb)) (fun _ t cs hg => ⟨rfl, t, cs, hg⟩) (fun _ z t _ es hg => ⟨rfl, z, t, es, hg⟩) (fun _ Φ hg => ⟨rfl, Φ, hg⟩), h.heap.inj, fun b hb ho => ?_, fun b hb => ?_⟩,
    h.glob.keep hk hro, ?_, h.base⟩
  · rcases hnew b hb with h1 | ⟨h1, _⟩
    · exact h.heap.disj b h1 ho
    · obtain ⟨id, ob, hg, hl, hb'⟩ := ho
      have := (h.heap.objs id ob hg).blkLt hl hb'
      omega
  · rcases hnew b hb with h1 | ⟨_, h1⟩
    · exact Nat.lt_of_lt_of_le (h.heap.lt b h1) hsz
    · exact h1
  · have t := h.trans
    refine ⟨hos.trans t.os, htape.trans t.tape, hout.trans t.output, Nat.le_trans t.size hsz, fun b hb hn => (hw b (Nat.lt_of_lt_of_le hb t.size)).trans (t.frame b hb hn), fun b hb => ?_, fun b hb => hro b (t.roKeep b hb), t.ownSub, t.old, t.new, t.le⟩
    rcases hnew b hb with h1 | ⟨h1, _⟩
    · exact t.roSub b h1
    · exact .inr (.inr (Nat.le_trans t.size h1))

theorem OpStep.newRO {t : TypeId} {n : Nat} {es : List (List RV)} (hh : NRow P G o s t n es) : OpStep P G o s (s.put o.dst (.rv (.sl n es))) := by
 obtain ⟨hn, h⟩ := hh
 intro E a w ⟨β, ro, hr⟩ K Q hK
 obtain ⟨v, xs, w', hrun, hown, hgr, hblk, hcells⟩ := h E a w β ro hr
 unfold Oper.wp
 rw [hrun]
 have hw : ∀ b, b < w.heap.size → w'.heap[b]? = w.heap[b]? := fun b hb => hgr.block b hb (by simp)
 have hrow : RowIs w' t n v es.length xs := .of_owns hown
 have hg := hr.grow (ro' := fun b => ro b ∨ blk v = some b) hgr.os hgr.tape hgr.output hgr.size hw (fun _ h => .inl h) (fun b hb => by
  rcases hb with h | h
  ·exact .inl h
  ·exact .inr ⟨hblk b h, (hrow.blkLt h).1⟩)
 exact hK _ _ ⟨β, _, hg.put o.dst _ _ (.rv _ _ (hrow.asRV hn (fun j x hj => (hcells j x hj).keep (fun b hb => hw b (hr.heap.lt b hb)) fun _ h => .inl h) fun b hb => .inr hb))⟩

mutual
theorem pure_shift (d : Nat) : ∀ (x : AV), pureA x = true → shiftA d x = x ∧ belowA 0 x = true
 | .rv _, _ => ⟨rfl, rfl⟩
 | .agg cs, h => by
  have := pure_shiftL d cs (by simpa [pureA] using h)
  exact ⟨by simp [shiftA, this.1], by simpa [belowA] using this.2⟩
 | .tuple cs, h => by
  have := pure_shiftL d cs (by simpa [pureA] using h)
  exact ⟨by simp [shiftA, this.1], by simpa [belowA] using this.2⟩
 | .fn f p q, h => by
  simp only [pureA, Bool.and_eq_true] at h
  have h1 := pure_shiftL d p h.1
  have h2 := pure_shiftL d q h.2
  exact ⟨by simp [shiftA, h1.1, h2.1], by simp [belowA, h1.2, h2.2]⟩
 | .top, _ => ⟨rfl, rfl⟩
 | .ptr _ _, h => by simp [pureA] at h
 | .eptr _ _ _, h => by simp [pureA] at h
 | .sl _, h => by simp [pureA] at h
 | .ref _, h => by simp [pureA] at h
theorem pure_shiftL (d : Nat) : ∀ (l : List AV), pureL l = true → shiftL d l = l ∧ belowL 0 l = true
 | [], _ => ⟨rfl, rfl⟩
 | x :: r, h => by
  simp only [pureL, Bool.and_eq_true] at h
  have h1 := pure_shift d x h.1
  have h2 := pure_shiftL d r h.2
  exact ⟨by simp [shiftL, h1.1, h2.1], by simp [belowL, h1.2, h2.2]⟩
end

theorem OpStep.callP {x : Operand} {xs : Array Operand} {ts : Array TypeId} (ho : o.op = .call { callee := .value x, args := xs, argTypes := ts }) {f : FuncId} (hx : aval G s x = .fn (.func f) [] [])
    (hcb : callable P f = true) {args : List AV} (hargs : xs.toList.map (fun y => viewA s.heap (aval G s y)) = args) (hpure : pureL args = true) {r : AV} (hc : ACalls P G f args [] 0 fun r1 τ => r1 = r ∧ τ = []) (hr : pureA r = true) (hb : s.base ≤ s.next) :
    OpStep P G o s (s.put o.dst r) := by
  obtain ⟨hsh, hbel⟩ := pure_shift s.next r hr
  have := OpStep.call (K := 0) ho hx hcb hargs hpure hc (fun _ _ h => h) hbel rfl hb
  rw [hsh] at this
  exact this

def maskF (ks : List Nat) (l : List AV) : List AV := l.mapIdx fun i x => if ks.contains i then x else .top

theorem maskF_at (ks : List Nat) (l : List AV) (i : Nat) : (maskF ks l)[i]? = (l[i]?).map fun x => if ks.contains i then x else .top := by
 simp [maskF]

theorem RelAt.mask (h : RelAt E G s a w β ro) (ks : List Nat) : RelAt E G { s with slots := maskF ks s.slots } a w β ro := by
 refine ⟨h.defers, by simp [maskF, h.size], fun i x hx => ?_, h.heap, h.glob, h.trans, h.base⟩
 simp only [maskF_at] at hx
 cases hi : s.slots[i]? with
 | none => simp [hi] at hx
 | some y =>
  simp only [hi, Option.map_some, Option.some.injEq] at hx
  split at hx
  ·subst hx; exact h.slot i y hi
  ·subst hx; exact .top _

def DStep (P : Program) (G : Glob) (ops : Array Oper) (s0 : St) (T : List AV) (o : Oper) (v : AV) : Prop :=
 ∀ s : St, s.heap = s0.heap → s.next = s0.next → s.base = s0.base → s.slots.length = T.length → (∀ t ∈ o.looksAt ops, s.slots[t]? = T[t]?) →
  (gwant ops s o = some true ∧ OpStep P G o s (s.put o.dst v)) ∨ (gwant ops s o = some false ∧ v = .tuple [])

theorem mask_eq {ks : List Nat} {l l' : List AV} (hlen : l.length = l'.length) (h : ∀ t ∈ ks, l[t]? = l'[t]?) : maskF ks l = maskF ks l' := by
 apply List.ext_getElem?
 intro i
 rw [maskF_at, maskF_at]
 by_cases hi : i ∈ ks
 ·rw [h i hi]
 ·have hc : ks.contains i = false := by simpa using hi
  simp only [hc]
  by_cases hl : i < l.length
  ·rw [List.getElem?_eq_getElem hl, List.getElem?_eq_getElem (by omega)]; rfl
  ·rw [List.getElem?_eq_none (by omega), List.getElem?_eq_none (by omega)]

theorem gwant_mask {ops : Array Oper} {ks : List Nat} (hk : ∀ j b, o.guard = some (j, b) → ∀ d, gslot ops j = some d → d ∈ ks) : gwant ops { s with slots := maskF ks s.slots } o = gwant ops s o := by
 unfold gwant
 cases hg : o.guard with
 | none => rfl
 | some jb =>
  obtain ⟨j, b⟩ := jb
  simp only
  cases hd : gslot ops j with
  | none => rfl
  | some d =>
   have hm : ks.contains d = true := by simpa using hk j b hg d hd
   simp only [maskF_at]
   cases hs : s.slots[d]? with
   | none => simp
   | some x => simp only [Option.map_some, hm, if_true]

theorem looks_guard {ops : Array Oper} (j : Nat) (b : Bool) (hg : o.guard = some (j, b)) (d : Nat) (hd : gslot ops j = some d) : d ∈ o.looksAt ops := by
 unfold gslot at hd
 simp [Oper.looksAt, hg, hd]

theorem DStep.val {ops : Array Oper} {s0 : St} {T : List AV} {v : AV} (hg : gwant ops ⟨maskF (o.looksAt ops) T, s0.heap, s0.next, s0.base⟩ o = some true) (hv : vstep P G o ⟨maskF (o.looksAt ops) T, s0.heap, s0.next, s0.base⟩ = some v) : DStep P G ops s0 T o v := by
 intro s h1 h2 h3 hlen hag
 have hm := mask_eq hlen hag
 have hst : ({ s with slots := maskF (o.looksAt ops) s.slots } : St) = ⟨maskF (o.looksAt ops) T, s0.heap, s0.next, s0.base⟩ := by rw [hm, ← h1, ← h2, ← h3]
 refine .inl ⟨by rw [← gwant_mask (ks := o.looksAt ops) looks_guard, hst]; exact hg, VStep.step fun E a w β ro hr => ?_⟩
 have hr' := hr.mask (o.looksAt ops)
 rw [hst] at hr'
 have := vstep_sound hv E a w β ro hr'
 simpa only [h1, h2] using this

theorem DStep.skip {ops : Array Oper} {s0 : St} {T : List AV} (hg : gwant ops ⟨maskF (o.looksAt ops) T, s0.heap, s0.next, s0.base⟩ o = some false) : DStep P G ops s0 T o (.tuple []) := by
 intro s h1 h2 h3 hlen hag
 have hm := mask_eq hlen hag
 have hst : ({ s with slots := maskF (o.looksAt ops) s.slots } : St) = ⟨maskF (o.looksAt ops) T, s0.heap, s0.next, s0.base⟩ := by rw [hm, ← h1, ← h2, ← h3]
 exact .inr ⟨by rw [← gwant_mask (ks := o.looksAt ops) looks_guard, hst]; exact hg, rfl⟩

theorem aval_mask {ks : List Nat} {y : Operand} (hy : ∀ t, y = .tmp t → t ∈ ks) : aval G { s with slots := maskF ks s.slots } y = aval G s y := by
 cases y with
 | tmp t =>
  have hm : ks.contains t = true := by simpa using hy t rfl
  simp only [aval, List.getD, maskF_at]
  cases hs : s.slots[t]? with
  | none => rfl
  | some x => simp only [Option.map_some, hm, if_true]
 | _ => rfl

theorem DStep.of {ops : Array Oper} {s0 : St} {T : List AV} {v : AV} (hg : gwant ops ⟨maskF (o.looksAt ops) T, s0.heap, s0.next, s0.base⟩ o = some true)
    (h : ∀ s : St, s.heap = s0.heap → s.next = s0.next → s.base = s0.base → (∀ y : Operand, (∀ t, y = .tmp t → t ∈ o.looksAt ops) → aval G s y = aval G ⟨maskF (o.looksAt ops) T, s0.heap, s0.next, s0.base⟩ y) → OpStep P G o s (s.put o.dst v)) : DStep P G ops s0 T o v := by
  intro s h1 h2 h3 hlen hag
  have hm := mask_eq hlen hag
  have hst : ({ s with slots := maskF (o.looksAt ops) s.slots } : St) = ⟨maskF (o.looksAt ops) T, s0.heap, s0.next, s0.base⟩ := by rw [hm, ← h1, ← h2, ← h3]
  refine .inl ⟨by rw [← gwant_mask (ks := o.looksAt ops) looks_guard, hst]; exact hg, h s h1 h2 h3 fun y hy => ?_⟩
  rw [← hst]
  exact (aval_mask hy).symm
end
end Go.Av
namespace Go.Av
open Go

def Lk (l : List Oper) (vals : List AV) (T0 : List AV) (E : Nat → Prop) (T : List AV) : Prop :=
 T.length = T0.length ∧ ∀ t, t < T0.length → ((∀ j o, l[j]? = some o → E j → o.dst ≠ some t) → T[t]? = T0[t]?) ∧ (∀ j o, l[j]? = some o → E j → o.dst = some t → T[t]? = vals[j]?)

theorem Lk.same {l : List Oper} {vals T0 T T' : List AV} {E E' : Nat → Prop} (h : Lk l vals T0 E T) (h' : Lk l vals T0 E' T') (t : Nat) (he : ∀ j o, l[j]? = some o → o.dst = some t → (E j ↔ E' j)) : T[t]? = T'[t]? := by
 by_cases ht : t < T0.length
 ·by_cases hx : ∃ j o, l[j]? = some o ∧ E j ∧ o.dst = some t
  ·obtain ⟨j, o, h1, h2, h3⟩ := hx
   rw [(h.2 t ht).2 j o h1 h2 h3, (h'.2 t ht).2 j o h1 ((he j o h1 h3).1 h2) h3]
  ·have e1 : ∀ j o, l[j]? = some o → E j → o.dst ≠ some t := fun j o h1 h2 h3 => hx ⟨j, o, h1, h2, h3⟩
   have e2 : ∀ j o, l[j]? = some o → E' j → o.dst ≠ some t := fun j o h1 h2 h3 => hx ⟨j, o, h1, (he j o h1 h3).2 h2, h3⟩
   rw [(h.2 t ht).1 e1, (h'.2 t ht).1 e2]
 ·rw [List.getElem?_eq_none (by have := h.1; omega), List.getElem?_eq_none (by have := h'.1; omega)]

def putL (T : List AV) (dst : Option Nat) (v : AV) : List AV :=
 match dst with
 | some d => T.set d v
 | none => T

theorem putL_length (T : List AV) (dst : Option Nat) (v : AV) : (putL T dst v).length = T.length := by
 cases dst <;> simp [putL]

theorem Lk.put {l : List Oper} {vals T0 T : List AV} {E : Nat → Prop} (h : Lk l vals T0 E T) {i : Nat} {o : Oper} {v : AV} (hi : l[i]? = some o) (hv : vals[i]? = some v)
    (hd : ∀ j p, l[j]? = some p → E j → p.dst ≠ none → p.dst ≠ o.dst) {E' : Nat → Prop} (hE : ∀ j, E' j ↔ E j ∨ j = i) : Lk l vals T0 E' (putL T o.dst v) := by
  refine ⟨by rw [putL_length]; exact h.1, fun t ht => ⟨fun hn => ?_, fun j p hj hEj hp => ?_⟩⟩
  · have h1 := (h.2 t ht).1 fun j p hj hEj => hn j p hj ((hE j).2 (.inl hEj))
    cases hdst : o.dst with
    | none => exact h1
    | some d =>
      have hne : d ≠ t := fun e => hn i o hi ((hE i).2 (.inr rfl)) (by rw [hdst, e])
      simp only [putL]
      rw [List.getElem?_set_ne hne]
      exact h1
  · rcases (hE j).1 hEj with h1 | h1
    · have h2 := (h.2 t ht).2 j p hj h1 hp
      cases hdst : o.dst with
      | none => exact h2
      | some d =>
        have hne : d ≠ t := fun e => hd j p hj h1 (by rw [hp]; simp) (by rw [hp, hdst, e])
        simp only [putL]
        rw [List.getElem?_set_ne hne]
        exact h2
    · subst h1
      rw [hi] at hj
      simp only [Option.some.injEq] at hj
      subst hj
      rw [hp]
      simp only [putL]
      rw [List.getElem?_set_self (by have := h.1; omega), hv]

inductive DSteps (P : Program) (G : Glob) (ops : Array Oper) (s0 : St) : List AV → List Oper → List AV → List AV → Prop where
 | nil (T : List AV) : DSteps P G ops s0 T [] [] T
 | cons {T : List AV} {o : Oper} {l : List Oper} {v : AV} {vs T' : List AV} : DStep P G ops s0 T o v → DSteps P G ops s0 (putL T o.dst v) l vs T' → DSteps P G ops s0 T (o :: l) (v :: vs) T'

def drawOk (ops : Array Oper) : Bool :=
  (List.range ops.size).all fun i => match ops[i]? with
    | none => false
    | some o => (match o.op with | .select _ _ => false | _ => true) && o.after.all (fun e => !Region.binds .any e || decide (e.on < i)) && (List.range i).all fun j => match ops[j]? with
      | none => false
      | some p => (match p.dst, o.dst with
          | some d, some d' => d != d'
          | _, _ => true) &&
        (o.after.any (fun e => e.on == j && Region.binds .any e) || ((match p.dst with
          | some d => !(o.looksAt ops).contains d
          | none => true) && (match o.dst with
          | some d => !(p.looksAt ops).contains d
          | none => true)))

theorem drawOk_spec {ops : Array Oper} (h : drawOk ops = true) {i : Nat} {o : Oper} (hi : ops[i]? = some o) :
    (∀ e ∈ o.after, Region.binds .any e = true → e.on < i) ∧ ∀ j p, j < i → ops[j]? = some p → (p.dst ≠ none → p.dst ≠ o.dst) ∧ ((∃ e ∈ o.after, e.on = j ∧ Region.binds .any e = true) ∨ ((∀ d, p.dst = some d → d ∉ o.looksAt ops) ∧ ∀ d, o.dst = some d → d ∉ p.looksAt ops)) := by
  unfold drawOk at h
  rw [List.all_eq_true] at h
  have hlt : i < ops.size := (Array.getElem?_eq_some_iff.1 hi).1
  have h1 := h i (List.mem_range.2 hlt)
  simp only [hi, Bool.and_eq_true] at h1
  obtain ⟨⟨_, h2⟩, h3⟩ := h1
  refine ⟨fun e he hb => by simpa [hb] using (Array.all_eq_true_iff_forall_mem.1 h2) e he, fun j p hj hp => ?_⟩
  rw [List.all_eq_true] at h3
  have h4 := h3 j (List.mem_range.2 hj)
  simp only [hp, Bool.and_eq_true] at h4
  obtain ⟨h5, h6⟩ := h4
  refine ⟨fun hn he => ?_, ?_⟩
  · cases hd : p.dst with
    | none => exact hn hd
    | some d =>
      rw [hd] at he
      rw [hd, ← he] at h5
      simp at h5
  · simp only [Bool.or_eq_true, Bool.and_eq_true] at h6
    rcases h6 with h6 | ⟨h6, h7⟩
    · left
      rw [Array.any_eq_true] at h6
      obtain ⟨q, hq, h⟩ := h6
      have he : o.after[q] ∈ o.after := Array.getElem_mem hq
      generalize o.after[q] = e at h he
      simp only [Bool.and_eq_true, beq_iff_eq] at h
      exact ⟨e, he, h.1, h.2⟩
    · right
      refine ⟨fun d hd => ?_, fun d hd => ?_⟩
      · rw [hd] at h6; simpa using h6
      · rw [hd] at h7; simpa using h7

theorem countP_lt {α : Type} (p q : α → Bool) : ∀ (l : List α), (∀ x ∈ l, q x = true → p x = true) → (∃ x ∈ l, p x = true ∧ q x = false) → l.countP q < l.countP p
 | [], _, h => by obtain ⟨x, hx, _⟩ := h; cases hx
 | y :: r, h1, h2 => by
  have hle : r.countP q ≤ r.countP p := List.countP_mono_left fun x hx => h1 x (by simp [hx])
  rw [List.countP_cons, List.countP_cons]
  obtain ⟨x, hx, hp, hq⟩ := h2
  rcases List.mem_cons.1 hx with rfl | hx
  ·simp [hp, hq]; omega
  ·have ih := countP_lt p q r (fun x hx => h1 x (by simp [hx])) ⟨x, hx, hp, hq⟩
   have := h1 y (by simp)
   cases hqy : q y with
   | false => simp; omega
   | true => simp [this hqy, ih]

section
variable {P : Program} {G : Glob} {s0 : St}

theorem DSteps.spec {ops : Array Oper} : ∀ {l : List Oper} {vs T T' : List AV} (k : Nat) {L : List Oper} {V : List AV} {T0 : List AV}, DSteps P G ops s0 T l vs T' → (∀ j, l[j]? = L[k + j]?) → (∀ j, vs[j]? = V[k + j]?) →
    (∀ (i : Nat) (o : Oper), L[i]? = some o → ∀ (j : Nat) (p : Oper), j < i → L[j]? = some p → p.dst ≠ none → p.dst ≠ o.dst) → Lk L V T0 (· < k) T →
    (∀ i o, l[i]? = some o → ∃ v Ti, vs[i]? = some v ∧ DStep P G ops s0 Ti o v ∧ Lk L V T0 (· < k + i) Ti) ∧ Lk L V T0 (· < k + l.length) T'
  | [], _, _, _, k, L, V, T0, .nil T, _, _, _, hT => ⟨by simp, hT⟩
  | o :: l, _, _, _, k, L, V, T0, .cons (v := v) (vs := vs) hd hrest, hl, hv, hdis, hT => by
    have hk : L[k]? = some o := by have := hl 0; simpa using this.symm
    have hvk : V[k]? = some v := by have := hv 0; simpa using this.symm
    have hT' := hT.put hk hvk (fun j p hj hjk hn => hdis k o hk j p hjk hj hn) (E' := (· < k + 1)) (fun j => by omega)
    obtain ⟨h1, h2⟩ := DSteps.spec (k + 1) hrest (fun j => by have := hl (j + 1); simp at this; rw [this]; congr 1; omega) (fun j => by have := hv (j + 1); simp at this; rw [this]; congr 1; omega) hdis hT'
    refine ⟨fun i o' hi => ?_, ?_⟩
    · cases i with
      | zero =>
        simp at hi
        subst hi
        exact ⟨v, _, rfl, hd, hT⟩
      | succ i =>
        simp at hi
        obtain ⟨v', Ti, g1, g2, g3⟩ := h1 i o' hi
        exact ⟨v', Ti, by simpa using g1, g2, by rw [show k + (i + 1) = k + 1 + i from by omega]; exact g3⟩
    · rw [List.length_cons, show k + (l.length + 1) = k + 1 + l.length from by omega]
      exact h2

theorem AWp.drawn {id : Nat} {l : List Oper} {Q : Exit → St → Prop} (vals T' : List AV) (hP : P.follows .mixedOrders = true) (hok : drawOk l.toArray = true) (hds : DSteps P G l.toArray s0 s0.slots l vals T')
    (k : Q .normal { s0 with slots := T' }) : AWp P G (.region id l.toArray true) Q s0 := by
  intro E a0 w0 hr0
  have hl : ∀ j : Nat, (l.toArray)[j]? = l[j]? := fun j => by simp
  have hdis : ∀ (i : Nat) (o : Oper), l[i]? = some o → ∀ (j : Nat) (p : Oper), j < i → l[j]? = some p → p.dst ≠ none → p.dst ≠ o.dst := fun i o hi j p hj hp =>
    ((drawOk_spec hok (by rw [hl]; exact hi)).2 j p hj (by rw [hl]; exact hp)).1
  have hdis2 : ∀ (i : Nat) (o : Oper), l[i]? = some o → ∀ (j : Nat) (p : Oper), j ≠ i → l[j]? = some p → p.dst ≠ none → p.dst ≠ o.dst := fun i o hi j p hne hp hn he => by
    rcases Nat.lt_or_ge j i with h | h
    · exact hdis i o hi j p h hp hn he
    · exact hdis j p hp i o (by omega) hi (by rw [← he]; exact hn) he.symm
  obtain ⟨hsp, hfin⟩ := DSteps.spec 0 (L := l) (V := vals) (T0 := s0.slots) hds (fun j => by simp) (fun j => by simp) hdis ⟨rfl, fun t ht => ⟨fun _ => rfl, fun j o _ hj => by omega⟩⟩
  simp only [Nat.zero_add] at hsp hfin
  let Inv : Array Bool → Act → World → Prop := fun listed a w => ∃ s, Rel E G s a w ∧ s.heap = s0.heap ∧ s.next = s0.next ∧ s.base = s0.base ∧ Lk l vals s0.slots (fun j => listed.getD j false = true) s.slots ∧
    (∀ j o, l[j]? = some o → listed.getD j false = true → ∀ e ∈ o.after, Region.binds .any e = true → listed.getD e.on false = true) ∧ listed.size = l.length
  have step : ∀ listed a w, Inv listed a w → ∀ i ∈ Region.ready .any l.toArray listed, ∀ K : Act → World → Prop, (∀ a' w', Inv (listed.setIfInBounds i true) a' w' → K a' w') → wpOp P l.toArray (lift E G Q) i K a w := by
    rintro listed a w ⟨s, hr, h1, h2, h3, hlk, hdc, hsz⟩ i hi K hK
    rw [mem_ready] at hi
    obtain ⟨hun, o, ho, hpre⟩ := hi
    rw [hl] at ho
    have hil : i < l.length := (List.getElem?_eq_some_iff.1 ho).1
    obtain ⟨v, Ti, hv, hd, hTi⟩ := hsp i o ho
    have hunl : listed.getD i false = false := by
      have : i < listed.size := by omega
      simp only [Array.getD, this, dif_pos] at hun ⊢
      exact hun
    have hag : ∀ t ∈ o.looksAt l.toArray, s.slots[t]? = Ti[t]? := fun t ht => hlk.same hTi t fun j p hj hp => by
      constructor
      · intro hlj
        rcases Nat.lt_or_ge j i with h | h
        · exact h
        · exfalso
          by_cases hji : j = i
          · subst hji; rw [hunl] at hlj; cases hlj
          · rcases ((drawOk_spec hok (i := j) (by rw [hl]; exact hj)).2 i o (by omega) (by rw [hl]; exact ho)).2 with ⟨e, he, h4, h5⟩ | ⟨_, h4⟩
            · have := hdc j p hj hlj e he h5
              rw [h4, hunl] at this
              cases this
            · exact h4 t hp ht
      · intro hji
        rcases ((drawOk_spec hok (i := i) (by rw [hl]; exact ho)).2 j p hji (by rw [hl]; exact hj)).2 with ⟨e, he, h4, h5⟩ | ⟨h4, _⟩
        · have := hpre e he h5
          rw [h4] at this
          exact this
        · exact absurd ht (h4 t hp)
    have hcase := hd s h1 h2 h3 (hlk.1.trans hTi.1.symm) hag
    have hset : ∀ j, (listed.setIfInBounds i true).getD j false = true ↔ listed.getD j false = true ∨ j = i := by
      intro j
      have hb : i < listed.size := by omega
      by_cases hj : j = i
      · subst hj
        simp [hb]
      · simp only [hj, or_false]
        rw [getD_set_ne false (fun e => hj e.symm)]
    have hnext : ∀ a' w', Rel E G (s.put o.dst v) a' w' → Inv (listed.setIfInBounds i true) a' w' := fun a' w' hr' => by
      have hp := hlk.put ho hv (fun j p hj hlj hn => hdis2 i o ho j p (fun e => by subst e; rw [hunl] at hlj; cases hlj) hj hn) (E' := fun j => (listed.setIfInBounds i true).getD j false = true) (fun j => hset j)
      have hps : (s.put o.dst v).slots = putL s.slots o.dst v := by cases hdst : o.dst <;> simp [St.put, putL]
      refine ⟨s.put o.dst v, hr', ?_, ?_, ?_, by rw [hps]; exact hp, fun j p hj hlj e he hb => ?_, by simpa using hsz⟩
      · cases hdst : o.dst <;> simp [St.put, h1]
      · cases hdst : o.dst <;> simp [St.put, h2]
      · cases hdst : o.dst <;> simp [St.put, h3]
      · rw [hset]
        left
        rcases (hset j).1 hlj with h4 | h4
        · exact hdc j p hj h4 e he hb
        · subst h4
          rw [ho] at hj
          simp only [Option.some.injEq] at hj
          subst hj
          exact hpre e he hb
    unfold wpOp
    rw [hl, ho]
    simp only
    rcases hcase with ⟨hg, hop⟩ | ⟨hg, rfl⟩
    · have hwant : Region.wanted o (yielded l.toArray a.tmps) = true := by
        unfold gwant at hg
        split at hg
        · rename_i hn
          simp [Region.wanted, hn]
        · rename_i j b hn
          split at hg
          · rename_i d hdd
            split at hg
            · rename_i c hs
              simp only [Option.some.injEq] at hg
              have hbc : b = c := by cases b <;> cases c <;> simp_all
              subst hbc
              have hy := yielded_of hr hdd hs
              simp [Region.wanted, hn, hy]
            · cases hg
            · cases hg
          · cases hg
      rw [if_pos hwant]
      exact .inl (hop E a w hr _ _ fun a' w' hr' => hK a' w' (hnext a' w' hr'))
    · have hwant : Region.wanted o (yielded l.toArray a.tmps) = false := by
        unfold gwant at hg
        split at hg
        · cases hg
        · rename_i j b hn
          split at hg
          · rename_i d hdd
            split at hg
            · rename_i c hs
              simp only [Option.some.injEq] at hg
              have hbc : c = !b := by cases b <;> cases c <;> simp_all
              subst hbc
              have hy := yielded_of hr hdd hs
              simp [Region.wanted, hn, hy]
            · rename_i cs hs
              have hy := yielded_none hr hdd hs
              simp [Region.wanted, hn, hy]
            · cases hg
          · cases hg
      rw [hwant]
      simp only [Bool.false_eq_true, if_false]
      exact hK _ _ (hnext _ _ (hr.putUndef o.dst))
  have fin : ∀ listed a w, Inv listed a w → Region.ready .any l.toArray listed = [] → lift E G Q .normal a w := by
    rintro listed a w ⟨s, hr, h1, h2, h3, hlk, hdc, hsz⟩ hnil
    have hall : ∀ m i, i < m → i < l.length → listed.getD i false = true := by
      intro m
      induction m with
      | zero => intro i hi; omega
      | succ m ih =>
        intro i him hil
        by_cases him' : i < m
        · exact ih i him' hil
        · have : i = m := by omega
          subst this
          cases hli : listed.getD i false with
          | true => rfl
          | false =>
            exfalso
            have ho : l[i]? = some l[i] := List.getElem?_eq_getElem hil
            have hmem : i ∈ Region.ready .any l.toArray listed := by
              rw [mem_ready]
              have hb : i < listed.size := by omega
              refine ⟨?_, l[i], by rw [hl]; exact ho, fun e he hbd => ?_⟩
              · simp only [Array.getD, hb, dif_pos] at hli ⊢
                exact hli
              · have hlt := (drawOk_spec hok (by rw [hl]; exact ho)).1 e he hbd
                exact ih e.on hlt (by omega)
            rw [hnil] at hmem
            cases hmem
    have hsl : s.slots = T' := by
      apply List.ext_getElem?
      intro t
      refine hlk.same hfin t fun j p hj _ => ?_
      have hjl : j < l.length := (List.getElem?_eq_some_iff.1 hj).1
      exact ⟨fun _ => hjl, fun _ => hall (j + 1) j (by omega) hjl⟩
    refine ⟨s, ?_, hr⟩
    have : s = { s0 with slots := T' } := by
      cases s
      simp only at h1 h2 h3 hsl
      subst h1 h2 h3 hsl
      rfl
    rw [this]
    exact k
  have key : ∀ fuel listed a w, Inv listed a w → ((List.range l.length).countP fun j => !listed.getD j false) ≤ fuel → wpAny P .any l.toArray (lift E G Q) fuel listed a w := by
    intro fuel
    induction fuel with
    | zero =>
      intro listed a w hI hc
      have hnil : Region.ready .any l.toArray listed = [] := by
        cases hrd : Region.ready .any l.toArray listed with
        | nil => rfl
        | cons i r =>
          exfalso
          have hi : i ∈ Region.ready .any l.toArray listed := by rw [hrd]; simp
          rw [mem_ready] at hi
          obtain ⟨hun, o, ho, _⟩ := hi
          rw [hl] at ho
          have hil : i < l.length := (List.getElem?_eq_some_iff.1 ho).1
          have hpos : 0 < (List.range l.length).countP fun j => !listed.getD j false := by
            rw [List.countP_pos_iff]
            refine ⟨i, List.mem_range.2 hil, ?_⟩
            obtain ⟨_, _, _, _, _, _, _, hsz⟩ := hI
            have hb : i < listed.size := by omega
            simp only [Array.getD, hb, dif_pos] at hun ⊢
            rw [hun]; rfl
          omega
      exact ⟨hnil, fin listed a w hI hnil⟩
    | succ fuel ih =>
      intro listed a w hI hc
      refine ⟨fun hnil => fin listed a w hI hnil, fun i hi => step listed a w hI i hi _ fun a' w' hI' => ih _ a' w' hI' ?_⟩
      rw [mem_ready] at hi
      obtain ⟨hun, o, ho, _⟩ := hi
      rw [hl] at ho
      have hil : i < l.length := (List.getElem?_eq_some_iff.1 ho).1
      obtain ⟨_, _, _, _, _, _, _, hsz⟩ := hI
      have hb : i < listed.size := by omega
      have hunl : listed.getD i false = false := by simp only [Array.getD, hb, dif_pos] at hun ⊢; exact hun
      have hlt : ((List.range l.length).countP fun j => !(listed.setIfInBounds i true).getD j false) < (List.range l.length).countP fun j => !listed.getD j false := by
        refine countP_lt _ _ _ (fun x _ hx => ?_) ⟨i, List.mem_range.2 hil, by rw [hunl]; rfl, by simp [hb]⟩
        by_cases hxi : i = x
        · subst hxi; simp [hb] at hx
        · rw [getD_set_ne false hxi] at hx; exact hx
      omega
  refine wp_region_any hP (key _ _ _ _ ?_ ?_)
  · obtain ⟨β, ro, hr⟩ := hr0
    have hg := hr.grow (w' := { w0 with drawn := w0.drawn + 1 }) (ro' := ro) rfl rfl rfl (Nat.le_refl _) (fun _ _ => rfl) (fun _ h => h) (fun _ h => .inl h)
    refine ⟨s0, ⟨β, ro, hg⟩, rfl, rfl, rfl, ⟨rfl, fun t ht => ⟨fun _ => rfl, fun j o hj hlj => ?_⟩⟩, fun j o hj hlj => ?_, by simp⟩
    · simp [Array.getD] at hlj
    · simp [Array.getD] at hlj
  · refine Nat.le_trans (List.countP_le_length) (by simp)

abbrev lookS (ops : Array Oper) (s0 : St) (T : List AV) (o : Oper) : St := ⟨maskF (o.looksAt ops) T, s0.heap, s0.next, s0.base⟩

theorem DStep.vs {ops : Array Oper} {T : List AV} {o : Oper} {v : AV} (hg : gwant ops (lookS ops s0 T o) o = some true) (hv : VStep P G o (lookS ops s0 T o) v) : DStep P G ops s0 T o v := by
 intro s h1 h2 h3 hlen hag
 have hm := mask_eq hlen hag
 have hst : ({ s with slots := maskF (o.looksAt ops) s.slots } : St) = lookS ops s0 T o := by rw [hm, h1, h2, h3]
 refine .inl ⟨by rw [← gwant_mask (ks := o.looksAt ops) looks_guard, hst]; exact hg, VStep.step fun E a w β ro hr => ?_⟩
 have hr' := hr.mask (o.looksAt ops)
 rw [hst] at hr'
 have := hv E a w β ro hr'
 simpa only [h1, h2] using this

theorem DStep.row {ops : Array Oper} {T : List AV} {o : Oper} {t n : Nat} {es : List (List RV)} (hg : gwant ops (lookS ops s0 T o) o = some true) (h : NRow P G o (lookS ops s0 T o) t n es) : DStep P G ops s0 T o (.rv (.sl n es)) := by
 intro s h1 h2 h3 hlen hag
 have hm := mask_eq hlen hag
 have hst : ({ s with slots := maskF (o.looksAt ops) s.slots } : St) = lookS ops s0 T o := by rw [hm, h1, h2, h3]
 refine .inl ⟨by rw [← gwant_mask (ks := o.looksAt ops) looks_guard, hst]; exact hg, OpStep.newRO (t := t) ⟨h.1, fun E a w β ro hr => ?_⟩⟩
 have hr' := hr.mask (o.looksAt ops)
 rw [hst] at hr'
 exact h.2 E a w β ro hr'

theorem DStep.call {ops : Array Oper} {T : List AV} {o : Oper} {x : Operand} {xs : Array Operand} {ts : Array TypeId} (ho : o.op = .call { callee := .value x, args := xs, argTypes := ts }) (hg : gwant ops (lookS ops s0 T o) o = some true) {f : FuncId}
    (hx : aval G (lookS ops s0 T o) x = .fn (.func f) [] []) (hcb : callable P f = true) {args : List AV} (hargs : xs.toList.map (fun y => viewA s0.heap (aval G (lookS ops s0 T o) y)) = args) (hpure : pureL args = true) {r : AV}
    (hc : ACalls P G f args [] 0 fun r1 τ => r1 = r ∧ τ = []) (hr : pureA r = true) (hb : s0.base ≤ s0.next) : DStep P G ops s0 T o r := by
  refine DStep.of hg fun s h1 h2 h3 hy => ?_
  have hops : ∀ y : Operand, (y = x ∨ y ∈ xs) → ∀ t, y = .tmp t → t ∈ o.looksAt ops := by
    intro y hy t ht
    subst ht
    refine List.mem_append_left _ (List.mem_filterMap.2 ⟨.tmp t, ?_, rfl⟩)
    rw [ho]
    simp only [Op.operands, Call.operands]
    rcases hy with h | h
    · rw [← h]; simp
    · simp [h]
  refine OpStep.callP ho (by rw [hy x (hops x (.inl rfl))]; exact hx) hcb (args := args) ?_ hpure hc hr (by rw [h2, h3]; exact hb)
  rw [← hargs]
  apply List.map_congr_left
  intro y hm
  rw [h1, hy y (hops y (.inr (by simpa using hm)))]

theorem DStep.cast {ops : Array Oper} {T : List AV} {o : Oper} {v v' : AV} (h : DStep P G ops s0 T o v) (e : v = v') : DStep P G ops s0 T o v' := e ▸ h
end
end Go.Av
namespace Go.Av
open Go

section
variable {P : Program} {G : Glob} {o : Oper} {s : St}

def bsType (P : Program) (t : TypeId) : Option (TypeId × Nat × List Value) :=
 match P.underlying t with
 | some (.slice e) => match P.info? e, zeroCells P e with
  | some i, some zs => if zs.all Value.oneCell' ∧ zs.length = i.size ∧ 0 < i.size then some (e, i.size, zs) else none
  | _, _ => none
 | _ => none

def bsRow (P : Program) (G : Glob) (s : St) (t : TypeId) (len : Nat) (parts : List (Nat × Operand)) : Option (TypeId × Nat × List (List RV)) :=
 match bsType P t with
 | some (e, n, zs) =>
  if len = 0 then (if parts.isEmpty then some (e, n, []) else none)
  else if len * n ≤ 16777216 ∧ (parts.map fun p => (p.1, aval G s p.2)).all (fun p => (vcells p.2).all (cellOkIn s.heap)) then
   match afill (fun i => some (i * n, n)) ((List.replicate len (zs.map fun z => AV.rv (.v z))).flatten) (parts.map fun p => (p.1, aval G s p.2)) with
   | some ds => match rvs ds with
    | some rs => some (e, n, chunk n len rs)
    | none => none
   | none => none
  else none
 | none => none

theorem R_buildSliceC {t : TypeId} {len : Nat} {parts : Array (Nat × Operand)} (ho : o.op = .buildSlice t len parts) {e n : Nat} {es : List (List RV)} (h : bsRow P G s t len parts.toList = some (e, n, es)) : NRow P G o s e n es := by
 unfold bsRow at h
 split at h
 ·rename_i e' n' zs ht
  unfold bsType at ht
  split at ht
  ·rename_i e2 hu
   split at ht
   ·rename_i i zs2 hi hz
    split at ht
    ·rename_i hc
     simp only [Option.some.injEq, Prod.mk.injEq] at ht
     obtain ⟨rfl, rfl, rfl⟩ := ht
     split at h
     ·rename_i hlen
      subst hlen
      split at h
      ·rename_i hp
       simp only [Option.some.injEq, Prod.mk.injEq] at h
       obtain ⟨rfl, rfl, rfl⟩ := h
       refine ⟨by simp, fun E a w β ro hr => ⟨.slice (some ⟨w.heap.size, 0, none⟩) 0 0, [], w.alloc (.cells #[] e2), ?_, ?_, World.grownBy_alloc w _ none, fun b hb => by simp [blk] at hb, by simp⟩⟩
       ·have hp' : parts = #[] := by
         apply Array.ext'
         simpa using hp
        subst hp'
        simp [execOp, ho, Instr.buildSlice, run_underlying hu, sizeOf, typeInfo, hi, Instr.fill, newRow, Sem.run_bind, Array.range_zero']
       ·exact World.ownsRow_lit w #[] 0 (Nat.zero_le _) (Nat.zero_le _) (by simp)
      ·cases h
     ·rename_i hlen
      split at h
      ·rename_i hc2
       split at h
       ·rename_i ds hf
        split at h
        ·rename_i rs hrs
         simp only [Option.some.injEq, Prod.mk.injEq] at h
         obtain ⟨rfl, rfl, rfl⟩ := h
         have hpos : 0 < len * i.size := Nat.mul_pos (Nat.pos_of_ne_zero hlen) hc.2.2
         exact R_buildSlice t len parts ho hu (by simp [hi]) hz hc.1 hc.2.1 ⟨hpos, hc2.1⟩ rfl hc2.2 hf hrs
        ·cases h
       ·cases h
      ·cases h
    ·cases ht
   ·cases ht
  ·cases ht
 ·cases h

theorem AOps.lenLe {ops : Array Oper} {Q : Exit → St → Prop} {l : List Oper} {x : Operand} {n : Nat} {es : List (List RV)} (hx : aval G s x = .rv (.sl n es)) (k : es.length ≤ 9223372036854775807 → AOps P G ops Q l s) : AOps P G ops Q l s := by
 intro E a w hr
 refine k ?_ E a w hr
 obtain ⟨β, ro, h⟩ := hr
 have h1 := h.eval x
 rw [hx] at h1
 generalize a.eval x = c at h1
 cases h1 with
 | rv _ _ h1 =>
  cases h1 with
  | sl _ _ b cap f g1 g2 =>
   have : maxLen = 9223372036854775807 := by decide
   omega
theorem AOps.lenLeM {ops : Array Oper} {Q : Exit → St → Prop} {α : Type} {C : α → List RV} {l : List α} {r : List Oper} {x : Operand} {n : Nat} (hx : aval G s x = .rv (.sl n (l.map C))) (k : l.length ≤ 9223372036854775807 → AOps P G ops Q r s) : AOps P G ops Q r s :=
 AOps.lenLe hx fun h => k (by rw [List.length_map] at h; exact h)
theorem R_indexAddrM {α : Type} (C : α → List RV) (l : List α) (n j : Nat) {t : TypeId} {x i : Operand} (ho : o.op = .indexAddr t x i) (ht : elemSize P t = some n) (hi : aval G s i = .rv (.v (.int .i64 (j : Int)))) (hx : aval G s x = .rv (.sl n (l.map C))) {e : α} (he : l[j]? = some e) : VStep P G o s (.rv (.ptr (C e))) :=
 R_indexAddr t x i ho ht hi (by rw [hx]; exact aelem_map he)
theorem R_lenM {α : Type} (C : α → List RV) (l : List α) (n : Nat) {x : Operand} {t : TypeId} (ho : o.op = .call { callee := .builtin .len, args := #[x], argTypes := #[t] }) (ht : isSlice P t = true) (hx : aval G s x = .rv (.sl n (l.map C))) : VStep P G o s (.rv (.v (.int .i64 (l.length : Int)))) :=
 R_len x t ho ht (by rw [hx]; exact alen_map)
end

theorem wrap_nat {k : Nat} (h : k + 1 ≤ 9223372036854775807) : IntKind.i64.wrap ((k : Int) + 1) = ((k + 1 : Nat) : Int) := by
 rw [wrap64_of _ (by omega) (by omega)]
 rfl
theorem beq_t {a b : Int} (h : (a == b) = true) : a = b := by simpa using h
theorem beq_f {a b : Int} (h : (a == b) = false) : a ≠ b := by simpa using h
theorem bne_t {a b : Int} (h : (a != b) = true) : a ≠ b := by simpa using h
theorem bne_f {a b : Int} (h : (a != b) = false) : a = b := by simpa using h

def scanN {R : Type} (b : Nat → Option R) : Nat → Nat → Option R
 | _, 0 => none
 | k, m + 1 => match b k with
  | some r => some r
  | none => scanN b (k + 1) m

theorem scanN_some {R : Type} {b : Nat → Option R} {k n : Nat} {r : R} {L : Option R} (h : L = scanN b k (n - k)) (hk : k < n) (hb : b k = some r) : L = some r := by
 rw [h, show n - k = (n - k - 1) + 1 from by omega]
 simp [scanN, hb]
theorem scanN_none {R : Type} {b : Nat → Option R} {k n : Nat} {L : Option R} (h : L = scanN b k (n - k)) (hk : k < n) (hb : b k = none) : L = scanN b (k + 1) (n - (k + 1)) := by
 rw [h, show n - k = (n - (k + 1)) + 1 from by omega]
 simp [scanN, hb]
theorem scanN_end {R : Type} {b : Nat → Option R} {k n : Nat} {L : Option R} (h : L = scanN b k (n - k)) (hk : n ≤ k) : L = none := by
 rw [h, show n - k = 0 from by omega]
 rfl

end Go.Av
namespace Go.Av
open Go

theorem width_pos (s : ByteArray) (pos : Nat) (h : pos < s.size) : 1 ≤ (Utf8.decode s pos).2 := by
 by_cases ha : (s[pos]'h).toNat < 128
 ·rw [Go.decode_ascii s pos h ha]
  exact Nat.le_refl _
 ·exact (Go.decode_high s pos h (by omega)).2

def scanR {R : Type} (s : ByteArray) (b : Nat → Option R) : Nat → Nat → Option R
 | 0, _ => none
 | m + 1, p => if p < s.size then (match b p with
  | some r => some r
  | none => scanR s b m (p + (Utf8.decode s p).2)) else none

theorem scanR_fuel {R : Type} (s : ByteArray) (b : Nat → Option R) : ∀ (m n p : Nat), s.size - p ≤ m → s.size - p ≤ n → scanR s b m p = scanR s b n p
 | 0, n, p, h1, h2 => by
  cases n with
  | zero => rfl
  | succ n => simp [scanR, show ¬ p < s.size from by omega]
 | m + 1, 0, p, h1, h2 => by simp [scanR, show ¬ p < s.size from by omega]
 | m + 1, n + 1, p, h1, h2 => by
  simp only [scanR]
  by_cases hp : p < s.size
  ·have := width_pos s p hp
   rw [scanR_fuel s b m n (p + (Utf8.decode s p).2) (by omega) (by omega)]
  ·simp [hp]

theorem scanR_some {R : Type} {s : ByteArray} {b : Nat → Option R} {k : Nat} {r : R} {L : Option R} (h : L = scanR s b (s.size - k) k) (hk : k < s.size) (hb : b k = some r) : L = some r := by
 rw [h, show s.size - k = (s.size - k - 1) + 1 from by omega]
 simp [scanR, hk, hb]
theorem scanR_none {R : Type} {s : ByteArray} {b : Nat → Option R} {k : Nat} {L : Option R} (h : L = scanR s b (s.size - k) k) (hk : k < s.size) (hb : b k = none) : L = scanR s b (s.size - (k + (Utf8.decode s k).2)) (k + (Utf8.decode s k).2) := by
 have hw := width_pos s k hk
 rw [h, show s.size - k = (s.size - k - 1) + 1 from by omega]
 simp only [scanR, hk, if_true, hb]
 exact scanR_fuel s b _ _ _ (by omega) (by omega)
theorem scanR_end {R : Type} {s : ByteArray} {b : Nat → Option R} {k : Nat} {L : Option R} (h : L = scanR s b (s.size - k) k) (hk : s.size ≤ k) : L = none := by
 rw [h, show s.size - k = 0 from by omega]
 rfl

theorem byteAt {s : ByteArray} {k : Nat} (h : k < s.size) : ∃ e, s.data.toList[k]? = some e :=
 ⟨_, List.getElem?_eq_getElem (by simpa using h)⟩

section
variable {P : Program} {G : Glob} {o : Oper} {s : St}
theorem R_indexStrM (b : ByteArray) (j : Nat) {t : TypeId} {x i : Operand} (ho : o.op = .index t x i) (ht : P.underlying t = some .string) (hi : aval G s i = .rv (.v (.int .i64 (j : Int)))) (hx : aval G s x = .rv (.v (.string b))) {u : UInt8} (hu : b.data.toList[j]? = some u) :
    VStep P G o s (.rv (.v (.int .u8 (u.toNat : Int)))) := R_index_str t x i ho ht hi hx hu

theorem R_nextM (b : ByteArray) (pos id : Nat) {x : Operand} (ho : o.op = .next x true) (hx : aval G s x = .ref id) (hid : hget s.heap id = some (.oth (strIt b pos))) (hp : pos < b.size) :
    OpStep P G o s ({ s with heap := hset s.heap id (.oth (strIt b (pos + (Utf8.decode b pos).2))) }.put o.dst (.tuple [.rv (.v (.bool true)), .rv (.v (.int .i64 (pos : Int))), .rv (.v (.int .i32 (((Utf8.decode b pos).1 : Nat) : Int)))])) :=
  R_next x ho hx hid hp rfl

theorem R_sliceM {α : Type} (C : α → List RV) (l : List α) (n h : Nat) {t : TypeId} {x y : Operand} (ho : o.op = .slice t x none (some y) none) (ht : elemSize P t = some n) (hx : aval G s x = .rv (.sl n (l.map C))) (hy : aval G s y = .rv (.v (.int .i64 (h : Int)))) (h2 : h ≤ l.length) :
    VStep P G o s (.rv (.sl n ((l.take h).map C))) :=
  R_slice t x none (some y) ho ht hx (l := 0) (h := h) (.inl ⟨rfl, rfl⟩) (.inr ⟨y, _, rfl, hy⟩) (Nat.zero_le _) (by simpa using h2) (by rw [List.drop_zero, List.map_take])

theorem R_appendM {α : Type} (C : α → List RV) (l m : List α) (id e n bytes : Nat) {x y : Operand} {t : TypeId} (ho : o.op = .call { callee := .builtin .append, args := #[x, y], argTypes := #[t, t] }) (ht : apType P t = some (e, n, bytes))
    (hx : aval G s x = .sl id) (hid : hget s.heap id = some (.row false e n (l.map C))) (hb : s.base ≤ id) (hlt : id < s.next)
    (hy : aval G s y = .rv (.sl n (m.map C))) (hsz : l.length + m.length ≤ maxLen ∧ (l.length + m.length) * bytes ≤ 140737488355328) :
    OpStep P G o s (St.put ⟨killL id s.slots, (id, .row false e n ((l ++ m).map C)) :: killH id s.heap, s.next, s.base⟩ o.dst (.sl id)) := by
  rw [List.map_append]
  exact R_append x y t ho ht hx hid hb hlt (by rw [hy]; simp [aelems]) (by simpa using hsz)
end
section
variable {P : Program} {G : Glob} {s : St}
theorem run_equalIn_slice_nil' (w : World) (d : Nat) (t e : TypeId) (a : Option Addr) (n c n' c' : Nat) (h : P.underlying t = some (.slice e)) :
    (Op.equalIn (d + 1) t (.slice a n c) (.slice none n' c')).run P w = .ok a.isNone w := by
  cases a <;> simp [Op.equalIn, run_underlying h]
theorem AOps.nilTest {ops : Array Oper} {Q : Exit → St → Prop} {α : Type} (C : α → List RV) (l : List α) (n : Nat) {o : Oper} {r : List Oper} {x : Operand} {t t' e : TypeId} (hg : o.guard = none)
    (ho : o.op = .binOp .eql t x (.const (.slice none 0 0)) t') (ht : P.underlying t = some (.slice e)) (hx : aval G s x = .rv (.sl n (l.map C))) (k : ∀ b : Bool, (b = true → l = []) → AOps P G ops Q r (s.put o.dst (vb b))) : AOps P G ops Q (o :: r) s := by
  intro E a w hr
  obtain ⟨β, ro, h⟩ := hr
  have h1 := h.eval x
  rw [hx] at h1
  generalize hc : a.eval x = c at h1
  cases h1 with
  | rv _ _ h1 =>
    cases h1 with
    | sl _ _ b cap f g1 g2 g3 g4 g5 =>
      have hl : b.isNone = true → l = [] := fun hb => by
        cases b with
        | some b => simp at hb
        | none =>
          cases l with
          | nil => rfl
          | cons q l =>
            obtain ⟨z, hz, _⟩ := g4 (by simp)
            cases hz
      refine wpList_plain hg fun _ hK => ?_
      unfold Oper.wp
      have hrun : (execOp a.eval o).run P w = .ok (.value (.bool b.isNone)) w := by
        have hn : a.eval (.const (.slice none 0 0)) = .slice none 0 0 := rfl
        have hq : ∀ u v : Operand, (eqGuard .eql t u v (.slice b (l.map C).length cap) (.slice none 0 0)).run P w = .ok () w := fun u v => rfl
        simp only [execOp, ho, hc, hn, Sem.run_bind, hq, Result.andThen_ok, binOp]
        simp [Op.equal, Op.maxDepth, run_equalIn_slice_nil' (P := P) w 9999 t e b _ cap 0 0 ht]
      rw [hrun]
      exact hK _ _ (k _ hl E _ _ ⟨β, ro, h.put o.dst _ _ (.ofV rfl)⟩)
end

theorem apSz {a b : Nat} {bytes : Nat} (h : a + b ≤ 1000000 ∧ bytes ≤ 1000) : a + b ≤ maxLen ∧ (a + b) * bytes ≤ 140737488355328 := by
 refine ⟨by simp only [maxLen]; omega, ?_⟩
 have := Nat.mul_le_mul h.1 h.2
 omega
def nilV (m : Option Nat) : AV → AV
 | .rv (.v (.slice none 0 0)) => match m with
  | some n => .rv (.sl n [])
  | none => .rv (.v (.slice none 0 0))
 | x => x
def nilsL : List (Option Nat) → List AV → List AV
 | m :: ms, c :: cs => nilV m c :: nilsL ms cs
 | _, cs => cs
def nilsA (m : List (Option Nat)) : AV → AV
 | .agg cs => .agg (nilsL m cs)
 | x => nilV (m.headD none) x
def St.nils (s : St) (k : Nat) (m : List (Option Nat)) : St :=
 { s with slots := match s.slots[k]? with | some x => s.slots.set k (nilsA m x) | none => s.slots }

theorem nilV_rel {w : World} {ro : Nat → Prop} {σ : Heap} {β : Nat → Value} {N : Nat} {m : Option Nat} {x : AV} {c : Value} (h : ARel w ro σ β N x c) : ARel w ro σ β N (nilV m x) c := by
 unfold nilV
 split
 ·cases m with
  | none => exact h
  | some n =>
   refine .rv _ _ ?_
   cases h with
   | rv _ _ h =>
    cases h
    exact .sl n [] none 0 (fun _ => undef) (Nat.le_refl _) (Nat.zero_le _) (by simp) (by simp) (by simp)
 ·exact h
theorem nilsL_at {m : List (Option Nat)} {cs : List AV} {j : Nat} {x : AV} (h : (nilsL m cs)[j]? = some x) : ∃ y p, cs[j]? = some y ∧ x = nilV p y := by
 induction m generalizing cs j with
 | nil => exact ⟨x, none, by simpa [nilsL] using h, by unfold nilV; split <;> rfl⟩
 | cons a m ih =>
  cases cs with
  | nil => simp [nilsL] at h
  | cons c cs =>
   cases j with
   | zero => simp [nilsL] at h; exact ⟨c, a, rfl, h.symm⟩
   | succ j => simp only [nilsL, List.getElem?_cons_succ] at h ⊢; exact ih h
theorem nilsL_length (m : List (Option Nat)) (cs : List AV) : (nilsL m cs).length = cs.length := by
 induction m generalizing cs with
 | nil => rfl
 | cons a m ih => cases cs <;> simp [nilsL, ih]
theorem nilsA_rel {w : World} {ro : Nat → Prop} {σ : Heap} {β : Nat → Value} {N : Nat} {m : List (Option Nat)} {x : AV} {c : Value} (h : ARel w ro σ β N x c) : ARel w ro σ β N (nilsA m x) c := by
 unfold nilsA
 split
 ·cases h with
  | agg cs c h1 h2 =>
   refine .agg _ _ (by rw [h1, nilsL_length]) fun j y hj => ?_
   obtain ⟨z, p, hz, rfl⟩ := nilsL_at hj
   exact nilV_rel (h2 j z hz)
 ·exact nilV_rel h
theorem Le.nils {s s' : St} (k : Nat) (m : List (Option Nat)) (h : s.nils k m = s') : Le s s' := by
 subst h
 intro E G a w ⟨β, ro, h⟩
 unfold St.nils
 cases hk : s.slots[k]? with
 | none => exact ⟨β, ro, h⟩
 | some x =>
  refine ⟨β, ro, h.defers, by simp [h.size], fun i y hy => ?_, h.heap, h.glob, h.trans, h.base⟩
  rw [List.getElem?_set] at hy
  split at hy
  ·rename_i e
   subst e
   split at hy
   ·simp only [Option.some.injEq] at hy
    subst hy
    exact nilsA_rel (h.slot k x hk)
   ·cases hy
  ·exact h.slot i y hy

def St.nilsB (s : St) (id : Nat) (m : List (Option Nat)) : St :=
 match hget s.heap id with
 | some (.box t cs) => { s with heap := hset s.heap id (.box t (nilsL m cs)) }
 | _ => s
theorem Le.nilsB {s s' : St} (id : Nat) (m : List (Option Nat)) (h : s.nilsB id m = s') : Le s s' := by
 subst h
 intro E G a w ⟨β, ro, h⟩
 unfold St.nilsB
 split
 ·rename_i t cs hid
  have hO := h.heap.objs id _ hid
  cases hO with
  | box _ _ b arr h1 h2 h3 h4 =>
   exact ⟨β, ro, h.write id _ _ hid rfl rfl (.inl ⟨_, _, _, rfl, rfl⟩) rfl rfl rfl (Nat.le_refl _) (fun _ _ _ => rfl) (.box t _ b arr h1 h2 (by rw [h3, nilsL_length]) fun j x hj => by
    obtain ⟨z, p, hz, rfl⟩ := nilsL_at hj
    exact nilV_rel (hset_box_keep hid (h4 j z hz) (fun _ _ => rfl)))⟩
 ·exact ⟨β, ro, h⟩

theorem or_fl {a b : Bool} (h : (a || b) = false) : a = false := by cases a <;> simp_all
theorem or_fr {a b : Bool} (h : (a || b) = false) : b = false := by cases a <;> simp_all
theorem and_tl {a b : Bool} (h : (a && b) = true) : a = true := by cases a <;> simp_all
theorem and_tr {a b : Bool} (h : (a && b) = true) : b = true := by cases a <;> simp_all
end Go.Av
namespace Go.Av
open Go

theorem scanN_get {R : Type} {b : Nat → Option R} {r : R} : ∀ {m k : Nat}, scanN b k m = some r → ∃ j, k ≤ j ∧ j < k + m ∧ b j = some r ∧ ∀ i, k ≤ i → i < j → b i = none
 | 0, k, h => by simp [scanN] at h
 | m + 1, k, h => by
  simp only [scanN] at h
  split at h
  ·rename_i r' hb
   simp only [Option.some.injEq] at h
   subst h
   exact ⟨k, Nat.le_refl _, by omega, hb, fun i h1 h2 => by omega⟩
  ·rename_i hb
   obtain ⟨j, h1, h2, h3, h4⟩ := scanN_get h
   refine ⟨j, by omega, by omega, h3, fun i h5 h6 => ?_⟩
   by_cases hi : i = k
   ·subst hi; exact hb
   ·exact h4 i (by omega) h6

theorem scanN_all {R : Type} {b : Nat → Option R} : ∀ {m k : Nat}, scanN b k m = none ↔ ∀ j, k ≤ j → j < k + m → b j = none
 | 0, k => by simp [scanN]; intro j h1 h2; omega
 | m + 1, k => by
  simp only [scanN]
  constructor
  ·intro h
   split at h
   ·cases h
   ·rename_i hb
    intro j h1 h2
    by_cases hj : j = k
    ·subst hj; exact hb
    ·exact scanN_all.1 h j (by omega) (by omega)
  ·intro h
   rw [h k (Nat.le_refl _) (by omega)]
   exact scanN_all.2 fun j h1 h2 => h j (by omega) (by omega)

theorem scanN_congr {R : Type} {b c : Nat → Option R} : ∀ {m k : Nat}, (∀ j, k ≤ j → j < k + m → b j = c j) → scanN b k m = scanN c k m
 | 0, _, _ => rfl
 | m + 1, k, h => by
  simp only [scanN]
  rw [h k (Nat.le_refl _) (by omega), scanN_congr fun j h1 h2 => h j (by omega) (by omega)]

end Go.Av
