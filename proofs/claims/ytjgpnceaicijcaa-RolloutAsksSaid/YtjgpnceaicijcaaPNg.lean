/- The AV calculus: printed steps for maps, copy, own blocks under other names. Conditions: none. -/
import Derived.Test.YtjgpnceaicijcaaPNf
namespace Go.Av
open Go Go.MapKept

section
variable {P : Program} {G : Glob} {o : Oper} {s : St}
theorem flatten_take {α : Type} {n : Nat} : ∀ {es : List (List α)}, (∀ e ∈ es, e.length = n) → ∀ k : Nat, (es.take k).flatten = es.flatten.take (k * n)
  | [], _, k => by simp
  | e :: r, h, 0 => by simp
  | e :: r, h, k + 1 => by
    have he : e.length = n := h e (by simp)
    have e1 : (k + 1) * n - n = k * n := by rw [Nat.succ_mul]; omega
    have e2 : e.take ((k + 1) * n) = e := List.take_of_length_le (by rw [he, Nat.succ_mul]; omega)
    rw [List.take_succ_cons, List.flatten_cons, List.flatten_cons, flatten_take (fun x hx => h x (by simp [hx])) k, List.take_append, e2, he, e1]
theorem flatten_drop {α : Type} {n : Nat} : ∀ {es : List (List α)}, (∀ e ∈ es, e.length = n) → ∀ k : Nat, (es.drop k).flatten = es.flatten.drop (k * n)
  | [], _, k => by simp
  | e :: r, h, 0 => by simp
  | e :: r, h, k + 1 => by
    have he : e.length = n := h e (by simp)
    have e1 : (k + 1) * n - n = k * n := by rw [Nat.succ_mul]; omega
    have e2 : e.drop ((k + 1) * n) = [] := List.drop_of_length_le (by rw [he, Nat.succ_mul]; omega)
    rw [List.drop_succ_cons, List.flatten_cons, flatten_drop (fun x hx => h x (by simp [hx])) k, List.drop_append, e2, he, e1, List.nil_append]

/-- copy into an own row. -/
theorem R_copy {x y : Operand} {t t' : TypeId} (ho : o.op = .call { callee := .builtin .copy, args := #[x, y], argTypes := #[t, t'] }) {n : Nat} (ht : elemSize P t = some n) {id : Nat} (hx : aval G s x = .sl id) {bt : TypeId} {es : List (List RV)} (hid : hget s.heap id = some (.row false bt n es))
    {fs : List (List RV)} (hy : aelems s.heap n (aval G s y) = some fs) :
    OpStep P G o s ({ s with heap := hset s.heap id (.row false bt n (fs.take es.length ++ es.drop fs.length)) }.put o.dst (vi ((Nat.min fs.length es.length : Nat) : Int))) := by
  intro E a w ⟨β, ro, hr⟩ K Q hK
  obtain ⟨e, hu, hsize⟩ := elemSize_run ht
  obtain ⟨b, cap, hc, hnf, hbn, f, hf1, hf2⟩ := aelems_rel hr.heap (hr.eval y) hy
  have hO := hr.heap.objs id _ hid
  cases hO with
  | row _ _ _ xs hrow hne hcells =>
    have hxv : a.eval x = β id := by
      have h := hr.eval x
      rw [hx] at h
      generalize a.eval x = c at h
      cases h with
      | sl _ _ _ hp => exact hp _ _ _ _ hid
    have hrow0 := hrow
    obtain ⟨hxlen, hrest⟩ := hrow
    let k := Nat.min fs.length es.length
    have hkf : k ≤ fs.length := Nat.min_le_left _ _
    have hke : k ≤ es.length := Nat.min_le_right _ _
    have hnk : ∀ q ∈ fs.take k, q.length = n := fun q hq => hnf q (List.mem_of_mem_take hq)
    have hflat : (fs.take k).flatten = fs.flatten.take (k * n) := flatten_take hnf k
    have hf2' : ∀ j x, (fs.take k).flatten[j]? = some x → RRel w ro x (f j) := fun j x hj => by
      rw [hflat, List.getElem?_take] at hj
      split at hj
      · exact hf2 j x hj
      · cases hj
    obtain ⟨hl1, hl2, hl3⟩ := news_of hnk hf2'
    rw [List.length_take, Nat.min_eq_left hkf] at hl1
    have htk : fs.take es.length = fs.take k := by
      show fs.take es.length = fs.take (Nat.min fs.length es.length)
      rcases Nat.le_total fs.length es.length with h | h
      · rw [show Nat.min fs.length es.length = fs.length from Nat.min_eq_left h, List.take_of_length_le h, List.take_of_length_le (Nat.le_refl _)]
      · rw [show Nat.min fs.length es.length = es.length from Nat.min_eq_right h]
    have hdr : es.drop fs.length = es.drop k := by
      show es.drop fs.length = es.drop (Nat.min fs.length es.length)
      rcases Nat.le_total fs.length es.length with h | h
      · rw [show Nat.min fs.length es.length = fs.length from Nat.min_eq_left h]
      · rw [show Nat.min fs.length es.length = es.length from Nat.min_eq_right h, List.drop_of_length_le h, List.drop_of_length_le (Nat.le_refl _)]
    rw [htk, hdr] at hK
    rcases hrest with ⟨⟨b', hv⟩, hz⟩ | ⟨g, cp, cur, hvv, hbase, hg, hle, hcm, hcs, htake⟩
    · -- no elements
      have hes : es = [] := List.eq_nil_of_length_eq_zero hz
      subst hes
      have hk0 : k = 0 := by omega
      have hcell : (Builtin.firstCells n 0 (.slice b fs.length cap)).run P w = .ok #[] w := by
        cases b with
        | none => rfl
        | some ad => exact run_firstCells_some (P := P) w n 0 ad fs.length cap [] (by simp) (by simp)
      have hrun : (execOp a.eval o).run P w = .ok (.value (goInt 0)) w := by
        have hm : Nat.min fs.length 0 = 0 := Nat.min_eq_right (Nat.zero_le _)
        simp only [execOp, ho, resolve, invoke, builtin, Sem.run_bind, Sem.run_pure, Result.andThen_ok, List.map_toArray, List.map_cons, List.map_nil, hxv, hv, hc, Builtin.copy_, Builtin.lenOf]
        cases b' <;> simp [hcell, storeCells, hsize, run_underlying hu]
      unfold Oper.wp
      rw [hrun]
      refine hK _ _ ⟨β, ro, (hr.write (w' := w) id _ (.row false bt n (fs.take k ++ [].drop k)) hid rfl rfl (.inr (.inl ⟨_, _, _, _, rfl, rfl⟩)) rfl rfl rfl (Nat.le_refl _) (fun _ _ _ => rfl) ?_).put o.dst _ _ (by rw [show Nat.min fs.length ([] : List (List RV)).length = 0 from Nat.min_eq_right (Nat.zero_le _)]; exact .ofV rfl)⟩
      rw [hk0]
      exact .row bt n _ xs hrow0 (by simp) (by simp)
    · have hcl : cur.size = cp * n := hcs
      have hin : k * n ≤ es.length * n := Nat.mul_le_mul_right n hke
      have hcapn : es.length * n ≤ cp * n := Nat.mul_le_mul_right n hle
      have hbase0 : cp ≠ 0 := Nat.ne_of_gt hbase
      have hlk : ((fs.take k).flatten).length = k * n := by rw [hflat, List.length_take, length_flatten_of hnf, Nat.min_eq_left (Nat.mul_le_mul_right n hkf)]
      generalize hns : (List.range ((fs.take k).length * n)).map f = news at hl1 hl2 hl3
      have hnl : news.length = k * n := by rw [← hns, List.length_map, List.length_range, List.length_take, Nat.min_eq_left hkf]
      have hst := run_storeCells_at P g 0 bt news 0 cur w hg (by rw [hnl]; omega) hl2
      simp only [Nat.add_zero, Nat.zero_add, List.append_assoc] at hst
      have hcell : (Builtin.firstCells n k (.slice b fs.length cap)).run P w = .ok news.toArray w := by
        cases b with
        | none =>
          have hfs : fs = [] := hbn rfl
          have : k = 0 := by have := hkf; rw [hfs] at this; simpa using this
          rw [this, Nat.zero_mul] at hnl
          rw [List.eq_nil_of_length_eq_zero hnl]
          rfl
        | some ad =>
          refine run_firstCells_some (P := P) w n k ad fs.length cap news hnl fun j v hj => ?_
          have hjl : j < k * n := by rw [← hnl]; exact (List.getElem?_eq_some_iff.1 hj).1
          have hjf : j < fs.length * n := Nat.lt_of_lt_of_le hjl (Nat.mul_le_mul_right n hkf)
          have h1 := hf1 ad rfl j hjf
          rw [← hns] at hj
          have hjt : j < (fs.take k).length * n := by rw [List.length_take, Nat.min_eq_left hkf]; exact hjl
          have hj2 : some (f j) = some v := by rw [← hj, List.getElem?_map, List.getElem?_range hjt]; rfl
          rw [h1, hj2]
      have hrun : (execOp a.eval o).run P w = .ok (.value (goInt k)) (w.setRow g (splice cur.toList 0 news).toArray) := by
        simp only [execOp, ho, resolve, invoke, builtin, Sem.run_bind, Sem.run_pure, Result.andThen_ok, List.map_toArray, List.map_cons, List.map_nil, hxv, hvv, hc, Builtin.copy_]
        simp only [splice, Nat.zero_add]
        simp [run_underlying hu, Builtin.lenOf, hsize, hcell, hst, k]
      unfold Oper.wp
      rw [hrun]
      have hother : ∀ q, q < w.heap.size → blk (β id) ≠ some q → (w.setRow g (splice cur.toList 0 news).toArray).heap[q]? = w.heap[q]? := fun q _ hq =>
        setRow_other w g q _ (fun e => hq (by rw [hvv, e]; simp [blk, hbase0]))
      have hro : ∀ q, ro q → (w.setRow g (splice cur.toList 0 news).toArray).heap[q]? = w.heap[q]? := fun q hq =>
        hother q (hr.heap.lt q hq) fun hbk => hr.heap.disj q hq ⟨id, _, hid, rfl, hbk⟩
      have hlen' : (fs.take k ++ es.drop k).length = es.length := by rw [List.length_append, List.length_take, List.length_drop, Nat.min_eq_left hkf]; omega
      have hfl' : (fs.take k ++ es.drop k).flatten = splice es.flatten 0 (fs.take k).flatten := by
        rw [List.flatten_append, flatten_drop hne, splice, List.take_zero, List.nil_append, Nat.zero_add, hlk]
      refine hK _ _ ⟨β, ro, (hr.write (w' := w.setRow g (splice cur.toList 0 news).toArray) id _ (.row false bt n (fs.take k ++ es.drop k)) hid rfl rfl (.inr (.inl ⟨_, _, _, _, rfl, rfl⟩)) rfl rfl rfl (by simp) hother ?_).put o.dst _ _ (.ofV rfl)⟩
      refine .row bt n _ (splice xs 0 news) ?_ (fun e' he' => ?_) (fun j y hj => ?_)
      · rw [hvv, hlen']
        refine ⟨by rw [splice_length _ _ _ (by omega)]; exact hxlen, .inr ⟨g, cp, _, rfl, hbase, setRow_heap w g cur _ bt (0, 0) hg, hle, hcm, ?_, ?_⟩⟩
        · rw [List.size_toArray, splice_length _ _ _ (by simp; omega)]; simpa using hcs
        · show List.take (es.length * n) (splice cur.toList 0 news) = _
          rw [take_splice _ _ _ _ (by omega) (by simp; omega), htake]
      · rcases List.mem_append.1 he' with h | h
        · exact hnk _ h
        · exact hne _ (List.mem_of_mem_drop h)
      · rw [hfl'] at hj
        have hs := splice_rel (RRel w ro) undef (cs := es.flatten) (vs := (fs.take k).flatten) (xs := xs) (ys := news) (off := 0) (by rw [length_flatten_of hne]; omega) (by omega) (by rw [length_flatten_of hne, hlk]; omega)
          (fun j x hj => hcells j x hj) (fun j y hj => hl3 j y hj) j y hj
        exact hs.keep hro fun _ h => h
end

theorem getEx {α : Type} {l : List α} {j : Nat} (h : j < l.length) : ∃ e, l[j]? = some e := ⟨_, List.getElem?_eq_getElem h⟩
/-- Two loops' ends. -/
def loopV {A : Type} (b : A → Step Unit A) (n : Nat) (a : A) : A :=
  match loopW b n a with
  | .inl _ => a
  | .inr x => x
theorem loopV_of {A : Type} {b : A → Step Unit A} {n : Nat} {a v : A} (h : loopW b n a = .inr v) : v = loopV b n a := by
  unfold loopV
  rw [h]

/-- An own map's entries, as an own block. -/
abbrev mapO {K V : Type} (agg : Bool) (key : K → Value) (C : V → List RV) (l : List (K × V)) : AObj := .oth (mapIt agg (ents key C l))
/-- An immutable map. -/
abbrev mapM {K V : Type} (agg : Bool) (key : K → Value) (C : V → List RV) (l : List (K × V)) : RV := mapR agg (ents key C l)
abbrev kS : ByteArray → Value := fun s => .string s
abbrev kI (k : IntKind) : Int → Value := fun n => .int k n

/-- The map, the key and the kinds of a lookup. -/
def lookOf (P : Program) (o : Oper) : Option (Operand × Operand × Bool × TypeDesc × TypeId) :=
  match o.op with
  | .lookup t m x c => match P.underlying t with
    | some (.map kt et) => match P.underlying kt with
      | some d => some (m, x, c, d, et)
      | none => none
    | _ => none
  | _ => none
def mapPutOf (P : Program) (o : Oper) : Option (Operand × Operand × Operand × TypeDesc) :=
  match o.op with
  | .mapUpdate t m x v => match P.underlying t with
    | some (.map kt _) => match P.underlying kt with
      | some d => some (m, x, v, d)
      | none => none
    | _ => none
  | _ => none
def mapNewOf (o : Oper) : Bool :=
  match o.op with
  | .makeMap _ none => true
  | _ => false
def copyOf (P : Program) (o : Oper) : Option (Operand × Operand × Nat) :=
  match o.op with
  | .call c => match c.callee, c.args.toList, c.argTypes.toList with
    | .builtin .copy, [x, y], [t, _] => match elemSize P t with
      | some n => some (x, y, n)
      | none => none
    | _, _, _ => none
  | _ => none
/-- What a slot holds as the value of an entry. -/
def valX (agg : Bool) (cs : List RV) : Option AV :=
  match agg, cs with
  | true, cs => some (.agg (cs.map .rv))
  | false, [x] => some (.rv x)
  | false, _ => none
theorem valX_av {agg : Bool} {cs : List RV} {v : AV} (h : valX agg cs = some v) : valAV agg cs v := by
  cases agg with
  | true => exact (Option.some.inj h).symm
  | false =>
    match cs, h with
    | [x], h => exact ⟨x, rfl, (Option.some.inj h).symm⟩

section
variable {G : Glob} {s : St} {K V : Type}
theorem MapAt.o {key : K → Value} {C : V → List RV} {m : Operand} {agg : Bool} {l : List (K × V)} (id : Nat) (hm : aval G s m = .ref id := by as_aux_lemma => kernel_rfl) (hid : hget s.heap id = some (mapO agg key C l) := by as_aux_lemma => kernel_rfl) : MapAt G s m agg (ents key C l) := .own hm hid
theorem MapAt.m {key : K → Value} {C : V → List RV} {m : Operand} {agg : Bool} {l : List (K × V)} (hm : aval G s m = .rv (mapM agg key C l) := by as_aux_lemma => kernel_rfl) : MapAt G s m agg (ents key C l) := .imm hm
end
section
variable {P : Program} {G : Glob} {Q : Exit → St → Prop} {s : St} {K V : Type} [DecidableEq K]
theorem AOps.mapNew {ops : Array Oper} {o : Oper} {rest : List Oper} (agg : Bool) (k : AOps P G ops Q rest ({ s with heap := (s.next, .oth (mapIt agg [])) :: s.heap, next := s.next + 1 }.put o.dst (.ref s.next)))
    (hg : gwant ops s o = some true := by as_aux_lemma => kernel_rfl) (ho : mapNewOf o = true := by as_aux_lemma => kernel_rfl) (hb : Nat.ble s.base s.next = true := by as_aux_lemma => kernel_rfl) : AOps P G ops Q (o :: rest) s := by
  unfold mapNewOf at ho
  split at ho
  · rename_i t ho'
    exact AOps.step hg (R_makeMap agg t ho' (Nat.le_of_ble_eq_true hb)) k
  · cases ho
theorem AOps.mapPut {ops : Array Oper} {o : Oper} {rest : List Oper} {d : TypeDesc} {key : K → Value} (hkf : KeyFn d key) (C : V → List RV) (agg : Bool) (l : List (K × V)) (x : K) (e : V) (id : Nat) (m y v : Operand)
    (k : AOps P G ops Q rest ({ s with heap := hset s.heap id (mapO agg key C (mput l x e)) }.put o.dst .top))
    (hg : gwant ops s o = some true := by as_aux_lemma => kernel_rfl) (ho : mapPutOf P o = some (m, y, v, d) := by as_aux_lemma => kernel_rfl) (hm : aval G s m = .ref id := by as_aux_lemma => kernel_rfl)
    (hid : hget s.heap id = some (mapO agg key C l) := by as_aux_lemma => kernel_rfl) (hy : aval G s y = .rv (.v (key x)) := by as_aux_lemma => kernel_rfl) (hv : valX agg (C e) = some (aval G s v) := by as_aux_lemma => kernel_rfl) : AOps P G ops Q (o :: rest) s := by
  unfold mapPutOf at ho
  split at ho
  · rename_i t m' y' v' ho'
    split at ho
    · rename_i kt et ht
      split at ho
      · rename_i d' hd
        simp only [Option.some.injEq, Prod.mk.injEq] at ho
        obtain ⟨rfl, rfl, rfl, rfl⟩ := ho
        exact AOps.step hg (R_mapPutT hkf C agg l x e id ho' ht hd hm hid hy (valX_av hv)) k
      · cases ho
    · cases ho
  · cases ho
theorem AOps.mapGet {ops : Array Oper} {o : Oper} {rest : List Oper} {d : TypeDesc} {key : K → Value} (hkf : KeyFn d key) (C : V → List RV) (agg : Bool) (l : List (K × V)) (x : K) (e : V) (m y : Operand) (c : Bool) (et : TypeId) (hM : MapAt G s m agg (ents key C l)) (hx : mget l x = some e)
    (k : AOps P G ops Q rest (s.put o.dst (lookR c (getAV agg (C e)) true)))
    (hg : gwant ops s o = some true := by as_aux_lemma => kernel_rfl) (ho : lookOf P o = some (m, y, c, d, et) := by as_aux_lemma => kernel_rfl) (hy : aval G s y = .rv (.v (key x)) := by as_aux_lemma => kernel_rfl) : AOps P G ops Q (o :: rest) s := by
  unfold lookOf at ho
  split at ho
  · rename_i t m' y' c' ho'
    split at ho
    · rename_i kt et' ht
      split at ho
      · rename_i d' hd
        simp only [Option.some.injEq, Prod.mk.injEq] at ho
        obtain ⟨rfl, rfl, rfl, rfl, rfl⟩ := ho
        exact AOps.step hg (R_mapGetT hkf C agg l x e c' ho' ht hd hM hy hx).step k
      · cases ho
    · cases ho
  · cases ho
theorem AOps.mapGetN {ops : Array Oper} {o : Oper} {rest : List Oper} {d : TypeDesc} {key : K → Value} (hkf : KeyFn d key) (C : V → List RV) (agg : Bool) (l : List (K × V)) (x : K) (m y : Operand) (c : Bool) (et : TypeId) (z : Value) (hM : MapAt G s m agg (ents key C l)) (hx : mget l x = none)
    (k : AOps P G ops Q rest (s.put o.dst (lookR c (zAV z) false)))
    (hg : gwant ops s o = some true := by as_aux_lemma => kernel_rfl) (ho : lookOf P o = some (m, y, c, d, et) := by as_aux_lemma => kernel_rfl) (hy : aval G s y = .rv (.v (key x)) := by as_aux_lemma => kernel_rfl)
    (hz : (P.info? et).bind (·.zero) = some z := by as_aux_lemma => kernel_rfl) (hzo : zOk z = true := by as_aux_lemma => kernel_rfl) : AOps P G ops Q (o :: rest) s := by
  unfold lookOf at ho
  split at ho
  · rename_i t m' y' c' ho'
    split at ho
    · rename_i kt et' ht
      split at ho
      · rename_i d' hd
        simp only [Option.some.injEq, Prod.mk.injEq] at ho
        obtain ⟨rfl, rfl, rfl, rfl, rfl⟩ := ho
        exact AOps.step hg (R_mapGetT_none hkf C agg l x c' z ho' ht hd hM hy hx hz hzo).step k
      · cases ho
    · cases ho
  · cases ho
theorem AOps.copy {α : Type} {ops : Array Oper} {o : Oper} {rest : List Oper} (C : α → List RV) (l m : List α) (id bt n : Nat) (x y : Operand)
    (k : AOps P G ops Q rest ({ s with heap := hset s.heap id (.row false bt n ((m.take l.length ++ l.drop m.length).map C)) }.put o.dst (vi ((Nat.min m.length l.length : Nat) : Int))))
    (hg : gwant ops s o = some true := by as_aux_lemma => kernel_rfl) (ho : copyOf P o = some (x, y, n) := by as_aux_lemma => kernel_rfl) (hx : aval G s x = .sl id := by as_aux_lemma => kernel_rfl)
    (hid : hget s.heap id = some (.row false bt n (l.map C)) := by as_aux_lemma => kernel_rfl) (hy : aval G s y = .rv (.sl n (m.map C)) := by as_aux_lemma => kernel_rfl) : AOps P G ops Q (o :: rest) s := by
  unfold copyOf at ho
  split at ho
  · rename_i c ho'
    split at ho
    · rename_i x' y' t t' hc hx' ht'
      split at ho
      · rename_i n' hn
        simp only [Option.some.injEq, Prod.mk.injEq] at ho
        obtain ⟨rfl, rfl, rfl⟩ := ho
        obtain ⟨callee, args, ts⟩ := c
        simp only at hc hx' ht'
        rw [hc, arr2 hx', arr2 ht'] at ho'
        have hy' : aelems s.heap n' (aval G s y') = some (m.map C) := by
          rw [hy]
          simp [aelems]
        have := R_copy ho' hn hx hid hy'
        simp only [List.length_map] at this
        refine AOps.step hg ?_ k
        rw [List.map_append, List.map_take, List.map_drop]
        exact this
      · cases ho
    · cases ho
  · cases ho
/-- Own blocks under the names 0, 1, .. -/
theorem AOps.ren {ops : Array Oper} {L : List Oper} (ids : List Nat) (os : List AObj) (n : Nat) (l : List (Nat × AV)) (h : Heap) (m : Nat) (k : AOps P G ops Q L (Z n l h m))
    (hb : Nat.beq s.base 0 = true := by as_aux_lemma => kernel_rfl) (hos : ids.map (hget s.heap) = os.map some := by as_aux_lemma => kernel_rfl) (hnd : nodupB ids = true := by as_aux_lemma => kernel_rfl) (hp : os.all pureO = true := by as_aux_lemma => kernel_rfl)
    (he : vw l h ⟨renL ids s.slots, number 0 os, os.length, 0⟩ = ⟨l, h, n, 0⟩ := by as_aux_lemma => kernel_rfl) (hm : Nat.beq os.length m = true := by as_aux_lemma => kernel_rfl) : AOps P G ops Q L s :=
  AOps.le (Le.ren ids os (Nat.eq_of_beq_eq_true hb) hos (nodupB_spec hnd) (List.all_eq_true.1 hp)) (AOps.le (le_vw he (Nat.le_of_eq (Nat.eq_of_beq_eq_true hm))) k)
end
end Go.Av
