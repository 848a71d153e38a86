/- The AV calculus, part E: stores. Conditions: none. -/
import Derived.Test.YtjgpnceaicijcaaPMd
namespace Go.Av
open Go

section
variable {P : Program} {G : Glob} {o : Oper} {s : St}

theorem hset_box_keep {w w' : World} {ro : Nat → Prop} {σ : Heap} {β : Nat → Value} {N id : Nat} {t : TypeId} {cs cs' : List AV} (hid : hget σ id = some (.box t cs)) {x : AV} {c : Value}
    (h : ARel w ro σ β N x c) (hro : ∀ b, ro b → w'.heap[b]? = w.heap[b]?) : ARel w' ro (hset σ id (.box t cs')) β N x c := by
  refine h.keep hro (fun _ h => h) (Nat.le_refl _) (fun k t1 c1 hk => ?_) (fun k z t1 n es hk => ?_) (fun k Φ hk => ?_)
  · rw [hget_hset] at hk
    by_cases hki : id = k
    · subst hki; exact ⟨rfl, t, cs, hid⟩
    · rw [if_neg hki] at hk; exact ⟨rfl, t1, c1, hk⟩
  · rw [hget_hset] at hk
    by_cases hki : id = k
    · subst hki; rw [if_pos rfl] at hk; cases hk
    · rw [if_neg hki] at hk; exact ⟨rfl, z, t1, es, hk⟩
  · rw [hget_hset] at hk
    by_cases hki : id = k
    · subst hki; rw [if_pos rfl] at hk; cases hk
    · rw [if_neg hki] at hk; exact ⟨rfl, Φ, hk⟩

def splice {α : Type} (cs : List α) (off : Nat) (vs : List α) : List α := cs.take off ++ (vs ++ cs.drop (off + vs.length))

theorem splice_length {α : Type} (cs : List α) (off : Nat) (vs : List α) (h : off + vs.length ≤ cs.length) : (splice cs off vs).length = cs.length := by
  simp [splice]; omega

theorem splice_rel {α β : Type} (R : α → β → Prop) (d : β) {cs vs : List α} {xs ys : List β} {off : Nat} (hl : cs.length ≤ xs.length) (hv : vs.length = ys.length) (hoff : off + vs.length ≤ cs.length)
    (h1 : ∀ j x, cs[j]? = some x → R x (xs.getD j d)) (h2 : ∀ j x, vs[j]? = some x → R x (ys.getD j d)) : ∀ j x, (splice cs off vs)[j]? = some x → R x ((splice xs off ys).getD j d) := by
  intro j x hj
  unfold splice at *
  by_cases ha : j < off
  · rw [List.getElem?_append_left (by simp; omega), List.getElem?_take, if_pos ha] at hj
    have := h1 j x hj
    rw [List.getD, List.getElem?_append_left (by simp; omega), List.getElem?_take, if_pos ha]
    exact this
  · have e1 : (cs.take off).length = off := by simp; omega
    have e2 : (xs.take off).length = off := by simp; omega
    rw [List.getElem?_append_right (by omega), e1] at hj
    rw [List.getD, List.getElem?_append_right (by omega), e2]
    by_cases hb : j - off < vs.length
    · rw [List.getElem?_append_left hb] at hj
      rw [List.getElem?_append_left (by omega)]
      exact h2 _ _ hj
    · rw [List.getElem?_append_right (by omega), List.getElem?_drop] at hj
      rw [List.getElem?_append_right (by omega), List.getElem?_drop]
      have e3 : off + vs.length + (j - off - vs.length) = j := by omega
      have e4 : off + ys.length + (j - off - ys.length) = j := by omega
      rw [e3] at hj
      rw [e4]
      exact h1 j x hj

theorem run_storeAt (t : TypeId) (b off : Nat) (c : Value) (w : World) (bt : TypeId) (arr : Array Value) (hg : w.heap[b]? = some (.cells arr bt (0, 0))) (hsz : (P.info? t).map (·.size) = some c.cells.size)
    (hfit : off + c.cells.size ≤ arr.size) (h1 : ∀ u ∈ c.cells.toList, u.oneCell' = true) :
    (Instr.storeAt t (.pointer (some ⟨b, off, none⟩)) c).run P w = .ok () (w.setRow b (splice arr.toList off c.cells.toList).toArray) := by
  have hst := run_storeCells_at P b off bt c.cells.toList 0 arr w hg (by simpa using hfit) h1
  cases hi : P.info? t with
  | none => simp [hi] at hsz
  | some i =>
    have hs : i.size = c.cells.size := by simpa [hi] using hsz
    simp only [Nat.add_zero, List.append_assoc] at hst
    simp only [Instr.storeAt, Instr.sureAddr, storeVar, sizeOf, typeInfo, Sem.run_bind, Sem.run_pure, Result.andThen_ok, splice]
    simp [hi, hs, hst]

theorem R_store (t : TypeId) (p x : Operand) (ho : o.op = .store t p x) {id off : Nat} (hp : aval G s p = .ptr id off) {bt : TypeId} {cs : List AV} (hid : hget s.heap id = some (.box bt cs))
    {vs : List AV} (hv : vcells (aval G s x) = vs) (hall : vs.all (cellOkIn s.heap) = true) (hsz : (P.info? t).map (·.size) = some vs.length) (hfit : off + vs.length ≤ cs.length) :
    OpStep P G o s ({ s with heap := hset s.heap id (.box bt (splice cs off vs)) }.put o.dst .top) := by
  intro E a w ⟨β, ro, hr⟩ K Q hK
  subst hv
  obtain ⟨h1, h2, h3⟩ := (hr.eval x).vcells hall hr.heap
  have hpe := hr.eval p
  rw [hp] at hpe
  have hO := hr.heap.objs id _ hid
  cases hO with
  | box _ _ b arr hb hg hsz' hcells =>
    generalize hpv : a.eval p = pv at hpe
    cases hpe with
    | ptr _ _ c hl hc =>
      obtain ⟨b', hb', rfl⟩ := hc _ _ hid
      rw [hb] at hb'
      simp only [Value.pointer.injEq, Option.some.injEq, Addr.mk.injEq, and_true] at hb'
      subst hb'
      have hrun := run_storeAt (P := P) t b off (a.eval x) w bt arr hg (by rw [hsz, h1]) (by omega) h3
      unfold Oper.wp
      simp only [execOp, ho, hpv, Sem.run_bind, hrun, Result.andThen_ok, Sem.run_pure]
      have hother : ∀ k, k < w.heap.size → blk (β id) ≠ some k → (w.setRow b (splice arr.toList off (a.eval x).cells.toList).toArray).heap[k]? = w.heap[k]? := fun k _ hk =>
        setRow_other w b k _ (fun e => hk (by rw [hb, e]; rfl))
      have hro : ∀ k, ro k → (w.setRow b (splice arr.toList off (a.eval x).cells.toList).toArray).heap[k]? = w.heap[k]? := fun k hk =>
        hother k (hr.heap.lt k hk) fun hbk => hr.heap.disj k hk ⟨id, _, hid, rfl, hbk⟩
      refine hK _ _ ⟨β, ro, (hr.write (w' := w.setRow b (splice arr.toList off (a.eval x).cells.toList).toArray) id _ (.box bt (splice cs off (vcells (aval G s x)))) hid rfl rfl (.inl ⟨_, _, _, rfl, rfl⟩) rfl rfl rfl (by simp) hother ?_).put o.dst _ _ (.top _)⟩
      refine .box bt _ b _ hb (setRow_heap w b arr _ bt (0, 0) hg) ?_ fun j y hj => ?_
      · rw [List.size_toArray, splice_length _ _ _ (by simp only [Array.length_toList]; omega), splice_length _ _ _ hfit, Array.length_toList, hsz']
      · have hs := splice_rel (ARel w ro s.heap β s.next) undef (cs := cs) (vs := vcells (aval G s x)) (xs := arr.toList) (ys := (a.eval x).cells.toList) (off := off) (by simp only [Array.length_toList]; omega) (by simp only [Array.length_toList]; omega) hfit
          (fun j x hj => by have := hcells j x hj; simpa [Array.getD_eq_getD_getElem?, List.getD] using this)
          (fun j x hj => by have := h2 j x hj; simpa [Array.getD_eq_getD_getElem?, List.getD] using this) j y hj
        have hs' := hset_box_keep (cs' := splice cs off (vcells (aval G s x))) hid hs hro
        simpa [Array.getD_eq_getD_getElem?, List.getD] using hs'

/-- Cells that are all immutable values. -/
def rvs : List AV → Option (List RV)
  | [] => some []
  | .rv x :: r => match rvs r with
    | some l => some (x :: l)
    | none => none
  | _ :: _ => none

theorem rvs_map : ∀ {vs : List AV} {l : List RV}, rvs vs = some l → vs = l.map .rv
  | [], l, h => by simp [rvs] at h; subst h; rfl
  | .rv x :: r, l, h => by
    simp only [rvs] at h
    cases hr : rvs r with
    | none => simp [hr] at h
    | some l' =>
      simp [hr] at h
      subst h
      simp [rvs_map hr]
  | .agg _ :: _, _, h => by simp [rvs] at h
  | .tuple _ :: _, _, h => by simp [rvs] at h
  | .ptr _ _ :: _, _, h => by simp [rvs] at h
  | .eptr _ _ _ :: _, _, h => by simp [rvs] at h
  | .sl _ :: _, _, h => by simp [rvs] at h
  | .fn _ _ _ :: _, _, h => by simp [rvs] at h
  | .ref _ :: _, _, h => by simp [rvs] at h
  | .top :: _, _, h => by simp [rvs] at h

theorem flatten_set {α : Type} {n : Nat} : ∀ {es : List (List α)}, (∀ e ∈ es, e.length = n) → ∀ {i : Nat} {e e' : List α}, es[i]? = some e → e'.length = n → (es.set i e').flatten = es.flatten.take (i * n) ++ (e' ++ es.flatten.drop (i * n + n))
  | [], _, i, e, e', h, _ => by simp at h
  | x :: r, hn, i, e, e', h, he => by
    have hx : x.length = n := hn x (by simp)
    cases i with
    | zero => simp [hx]
    | succ i =>
      simp at h
      have ih := flatten_set (es := r) (fun e he => hn e (by simp [he])) h he
      simp only [List.set_cons_succ, List.flatten_cons, ih]
      have e1 : (i + 1) * n = x.length + i * n := by rw [Nat.succ_mul]; omega
      have e2 : (i + 1) * n + n = x.length + (i * n + n) := by rw [Nat.succ_mul]; omega
      have e3 : x.length + (i * n + n) - x.length = i * n + n := by omega
      have e4 : x.length + i * n - x.length = i * n := by omega
      rw [e2, e1, List.take_append, List.drop_append, e3, e4, List.take_of_length_le (l := x) (by omega), List.drop_of_length_le (l := x) (by omega)]
      simp

theorem splice_splice {α : Type} (l : List α) (p n k : Nat) (vs : List α) (e : List α) (he : e.length = n) (hl : ∀ j, j < n → l[p + j]? = e[j]?) (hk : k + vs.length ≤ n) (hp : p + n ≤ l.length) :
    splice l (p + k) vs = l.take p ++ (splice e k vs ++ l.drop (p + n)) := by
  apply List.ext_getElem?
  intro j
  have hs : (splice e k vs).length = n := by rw [splice_length _ _ _ (by omega), he]
  unfold splice at *
  by_cases h1 : j < p
  · rw [List.getElem?_append_left (by simp; omega), List.getElem?_take, if_pos (by omega), List.getElem?_append_left (by simp; omega), List.getElem?_take, if_pos h1]
  · have e1 : (l.take p).length = p := by simp; omega
    have e2 : (l.take (p + k)).length = p + k := by simp; omega
    rw [List.getElem?_append_right (l₁ := l.take p) (by omega), e1]
    by_cases h2 : j < p + k
    · rw [List.getElem?_append_left (by omega), List.getElem?_take, if_pos h2, List.getElem?_append_left (by omega), List.getElem?_append_left (by simp; omega), List.getElem?_take, if_pos (by omega), ← hl _ (by omega)]
      congr 1; omega
    · rw [List.getElem?_append_right (by omega), e2]
      have e3 : (e.take k).length = k := by simp; omega
      by_cases h3 : j < p + k + vs.length
      · rw [List.getElem?_append_left (by omega), List.getElem?_append_left (by omega), List.getElem?_append_right (by omega), e3, List.getElem?_append_left (by omega)]
        congr 1; omega
      · rw [List.getElem?_append_right (by omega), List.getElem?_drop]
        by_cases h4 : j < p + n
        · rw [List.getElem?_append_left (by omega), List.getElem?_append_right (by omega), e3, List.getElem?_append_right (by omega), List.getElem?_drop, ← hl _ (by omega)]
          congr 1; omega
        · rw [List.getElem?_append_right (by omega), hs, List.getElem?_drop]
          congr 1; omega

theorem take_splice {α : Type} (l : List α) (off m : Nat) (ys : List α) (h : off + ys.length ≤ m) (hm : m ≤ l.length) : (splice l off ys).take m = splice (l.take m) off ys := by
  have e1 : min m off = off := by omega
  have e2 : min off m = off := by omega
  have e3 : min off l.length = off := by omega
  have e4 : List.take (m - off) ys = ys := List.take_of_length_le (by omega)
  have e5 : m - off - ys.length = m - (off + ys.length) := by omega
  simp only [splice, List.take_append, List.take_take, List.length_take, List.drop_take, e1, e2, e3, e4, e5]

theorem R_store_row (t : TypeId) (p x : Operand) (ho : o.op = .store t p x) {id i off : Nat} (hp : aval G s p = .eptr id i off) {bt : TypeId} {n : Nat} {es : List (List RV)} (hid : hget s.heap id = some (.row false bt n es))
    {e : List RV} (hei : es[i]? = some e) {vs : List RV} (hv : rvs (vcells (aval G s x)) = some vs) (hsz : (P.info? t).map (·.size) = some vs.length) (hfit : off + vs.length ≤ n) :
    OpStep P G o s ({ s with heap := hset s.heap id (.row false bt n (es.set i (splice e off vs))) }.put o.dst .top) := by
  intro E a w ⟨β, ro, hr⟩ K Q hK
  have hvm := rvs_map hv
  have hall : (vcells (aval G s x)).all (cellOkIn s.heap) = true := by rw [hvm]; simp [List.all_eq_true, cellOkIn]
  obtain ⟨h1, h2, h3⟩ := (hr.eval x).vcells hall hr.heap
  rw [hvm] at h1 h2
  rw [List.length_map] at h1
  have hpe := hr.eval p
  rw [hp] at hpe
  have hO := hr.heap.objs id _ hid
  cases hO with
  | row _ _ _ xs hown hn hcells =>
    generalize hpv : a.eval p = pv at hpe
    cases hpe with
    | eptr _ _ _ c hl hc =>
      obtain ⟨b, l, cp, hb, rfl⟩ := hc _ _ _ _ hid
      have hown' := hown
      rw [hb] at hown
      obtain ⟨hxlen, hrest⟩ := hown
      rcases hrest with ⟨⟨_, h⟩, hz⟩ | ⟨g, cap, cur, hvv, hbase, hg, hle, hcm, hcs, htake⟩
      · have := (List.getElem?_eq_some_iff.1 hei).1; omega
      · simp only [Value.slice.injEq, Option.some.injEq, Addr.mk.injEq, and_true] at hvv
        obtain ⟨rfl, rfl, rfl⟩ := hvv
        have hel : e.length = n := hn e (List.mem_of_getElem? hei)
        have hil : i < es.length := (List.getElem?_eq_some_iff.1 hei).1
        have hin : i * n + n ≤ es.length * n := by rw [← Nat.succ_mul]; exact Nat.mul_le_mul_right n hil
        have hcapn : es.length * n ≤ cp * n := Nat.mul_le_mul_right n hle
        have hrun := run_storeAt (P := P) t b (i * n + off) (a.eval x) w bt cur hg (by rw [hsz, h1]) (by omega) h3
        unfold Oper.wp
        simp only [execOp, ho, hpv, Sem.run_bind, hrun, Result.andThen_ok, Sem.run_pure]
        have hother : ∀ k, k < w.heap.size → blk (β id) ≠ some k → (w.setRow b (splice cur.toList (i * n + off) (a.eval x).cells.toList).toArray).heap[k]? = w.heap[k]? := fun k _ hk =>
          setRow_other w b k _ (fun e => hk (by rw [hb, e]; simp [blk, Nat.ne_of_gt hbase]))
        have hro : ∀ k, ro k → (w.setRow b (splice cur.toList (i * n + off) (a.eval x).cells.toList).toArray).heap[k]? = w.heap[k]? := fun k hk =>
          hother k (hr.heap.lt k hk) fun hbk => hr.heap.disj k hk ⟨id, _, hid, rfl, hbk⟩
        have hsl : (splice e off vs).length = n := by rw [splice_length _ _ _ (by omega), hel]
        refine hK _ _ ⟨β, ro, (hr.write (w' := w.setRow b (splice cur.toList (i * n + off) (a.eval x).cells.toList).toArray) id _ (.row false bt n (es.set i (splice e off vs))) hid rfl rfl (.inr (.inl ⟨_, _, _, _, rfl, rfl⟩)) rfl rfl rfl (by simp) hother ?_).put o.dst _ _ (.top _)⟩
        have hcl : (a.eval x).cells.toList.length = vs.length := by simpa using h1
        refine .row bt n _ (splice xs (i * n + off) (a.eval x).cells.toList) ?_ (fun e' he' => ?_) (fun j y hj => ?_)
        · rw [hb, List.length_set]
          refine ⟨by rw [splice_length _ _ _ (by omega)]; exact hxlen, .inr ⟨b, cp, _, rfl, hbase, setRow_heap w b cur _ bt (0, 0) hg, hle, hcm, ?_, ?_⟩⟩
          · rw [List.size_toArray, splice_length _ _ _ (by simp; omega)]; simpa using hcs
          · show List.take (es.length * n) (splice cur.toList (i * n + off) (a.eval x).cells.toList) = _
            rw [take_splice _ _ _ _ (by omega) (by simp; omega), htake]
        · rcases List.mem_or_eq_of_mem_set he' with h | h
          · exact hn e' h
          · rw [h]; exact hsl
        · rw [flatten_set hn hei hsl, ← splice_splice es.flatten (i * n) n off vs e hel (fun j hj => flatten_at hn hei j hj) hfit (by rw [length_flatten_of hn]; exact hin)] at hj
          have hs := splice_rel (RRel w ro) undef (cs := es.flatten) (vs := vs) (xs := xs) (ys := (a.eval x).cells.toList) (off := i * n + off) (by rw [length_flatten_of hn]; omega) (by omega) (by rw [length_flatten_of hn]; omega)
            (fun j x hj => hcells j x hj)
            (fun j y hj => by
              have := h2 j (.rv y) (by simp [hj])
              cases this with
              | rv _ _ h => simpa [Array.getD_eq_getD_getElem?, List.getD] using h) j y hj
          exact hs.keep hro fun _ h => h
end
end Go.Av
