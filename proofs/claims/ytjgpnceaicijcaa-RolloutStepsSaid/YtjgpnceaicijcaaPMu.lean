/- The AV calculus, part U: regions walked by lists of hints; states given by what is known of them. Conditions: none. -/
import Derived.Test.YtjgpnceaicijcaaPNa
namespace Go.Av
open Go

/-- What helps over an operation that wants more than computing. -/
inductive Hint (P : Program) (G : Glob) : Type 1 where
  | run (n : Nat)
  | cast (u v : AV) (h : u = v)
  | idx {α : Type} (C : α → List RV) (l : List α) (n j : Nat) (e : α) (h : l[j]? = some e)
  | idxS (b : ByteArray) (j : Nat) (u : UInt8) (h : b.data.toList[j]? = some u)
  | len {α : Type} (C : α → List RV) (l : List α) (n : Nat)
  | call (f : FuncId) (args : List AV) (r : AV) (τ : Heap) (K : Nat) (h : ACalls P G f args [] 0 fun r1 τ1 => r1 = r ∧ τ1 = τ)
  | take {α : Type} (C : α → List RV) (l : List α) (n k : Nat) (h : k ≤ l.length)
  | cut0 {α : Type} (C : α → List RV) (l : List α) (e n : Nat)
  | app {α : Type} (C : α → List RV) (l m : List α) (id e n bytes : Nat) (h : l.length + m.length ≤ maxLen ∧ (l.length + m.length) * bytes ≤ 140737488355328)
  | mnx (mx : Bool) (a b : Int)
  | lit (e n : Nat) (es : List (List RV))
  | row (e n : Nat) (es : List (List RV))
  | rng (b : ByteArray)
  | nils (k : Nat) (m : List (Option Nat))
  | frz (id : Nat)
  | idxR {α : Type} (C : α → List RV) (l : List α) (id n j : Nat) (h : j < l.length)
  | lenR {α : Type} (C : α → List RV) (l : List α) (id n : Nat)
  | ldR {α : Type} (C : α → List RV) (l : List α) (id n j off k : Nat) (e : α) (h : l[j]? = some e)
  | ldR1 {α : Type} (C : α → List RV) (l : List α) (id n j off : Nat) (e : α) (h : l[j]? = some e)
  | mk {α : Type} (C : α → List RV) (d : α) (m c e n bytes : Nat) (h : m ≤ c ∧ c ≤ maxLen ∧ bytes * c ≤ 281474976710656)
  | idxA (j : Nat)
  | slc {α : Type} (C : α → List RV) (l : List α) (n : Nat) (lo hi : Option Nat) (h1 : lo.getD 0 ≤ hi.getD l.length) (h2 : hi.getD l.length ≤ l.length)
  | slcS (b : ByteArray) (lo hi : Option Nat) (h1 : lo.getD 0 ≤ hi.getD b.size) (h2 : hi.getD b.size ≤ b.size)
  | slot (k : Nat) (u v : AV) (h : u = v)
  | nrow (k e n : Nat)
  | faR {α : Type} (C : α → List RV) (l : List α) (id n j off : Nat) (e : α) (h : l[j]? = some e)
  | stR {α : Type} (C : α → List RV) (l : List α) (id n j off : Nat) (e e' : α) (h : l[j]? = some e)
  | fnc
  | callB (f : FuncId) (p q args : List AV) (r : AV) (h : ACalls P G f args [] 0 fun r1 τ1 => r1 = r ∧ τ1 = [])

/-- An empty row as the nil slice of a zero value. -/
def unNil : RV → RV
  | .sl _ [] => .v (.slice none 0 0)
  | x => x
theorem unNil_rel {w : World} {ro : Nat → Prop} {x : RV} {v : Value} (h : unNil x = .v v) (hv : v.oneCell' = true) : RRel w ro x v := by
  unfold unNil at h
  split at h
  · rename_i n
    simp only [RV.v.injEq] at h
    subst h
    exact .sl n [] none 0 (fun _ => undef) (Nat.le_refl _) (Nat.zero_le _) (by simp) (by simp) (by simp)
  · subst h
    exact .v _ hv

section
variable {P : Program} {G : Glob} {o : Oper} {s : St}
/-- make of a slice with a length and a capacity. -/
theorem R_mk {α : Type} (C : α → List RV) (d : α) (m c : Nat) {t : TypeId} {x y : Operand} (ho : o.op = .makeSlice t x y) {e n bytes : Nat} (ht : apType P t = some (e, n, bytes)) {zs : List Value} (hz : zeroCells P e = some zs) (hzall : zs.all Value.oneCell' = true)
    (hd : zs.map RV.v = (C d).map unNil) (hx : aval G s x = vi (m : Int)) (hy : aval G s y = vi (c : Int)) (hsz : m ≤ c ∧ c ≤ maxLen ∧ bytes * c ≤ 281474976710656) :
    NRow P G o s e n ((List.replicate m d).map C) := by
  obtain ⟨i, z, hu, hi, hzz, hsize, hby, hzs, hn⟩ := apType_spec ht
  obtain ⟨z', _, hzc, i', hi', hz'⟩ := run_zero (P := P) hz default
  have hzz' : z.cells = zs.toArray := by
    rw [hi] at hi'
    simp only [Option.some.injEq] at hi'
    subst hi'
    rw [hzz] at hz'
    simp only [Option.some.injEq] at hz'
    subst hz'
    exact hzc
  have hzl : zs.length = n := by rw [← hzs, hzz']; simp
  have hdl : (C d).length = n := by rw [← hzl]; have := congrArg List.length hd; simpa using this.symm
  have hel : ∀ q ∈ (List.replicate m d).map C, q.length = n := by
    intro q hq
    rw [List.mem_map] at hq
    obtain ⟨u, hu, rfl⟩ := hq
    rw [List.mem_replicate] at hu
    rw [hu.2]; exact hdl
  refine ⟨hel, fun E a w β ro hr => ?_⟩
  have hc63 : (c : Int) ≤ 9223372036854775807 := by
    have h := hsz.2.1
    simp only [maxLen] at h
    omega
  have hbc : (i.bytes : Int) * (c : Int) ≤ 281474976710656 := by
    have h : ((i.bytes * c : Nat) : Int) ≤ 281474976710656 := by rw [hby]; have := hsz.2.2; omega
    rwa [Int.natCast_mul] at h
  have hrun := run_make (P := P) w t e i z hu hi hzz .i64 .i64 (m : Int) (c : Int) (by omega) (by have := hsz.1; omega) hbc hc63
  simp only [Int.toNat_natCast, hsize] at hrun
  refine ⟨.slice (some ⟨w.heap.size, 0, none⟩) m c, (madeCells z.cells (c * n)).toList.take (m * n), _, by simp only [execOp, ho, hr.evalV hx, hr.evalV hy, Sem.run_bind, hrun, Result.andThen_ok, Sem.run_pure], ⟨?_, .inr ⟨w.heap.size, c, madeCells z.cells (c * n), by rw [List.length_map, List.length_replicate], Nat.zero_le _, heap_alloc_new w _, by rw [List.length_map, List.length_replicate]; exact hsz.1, hsz.2.1, size_madeCells _ _, by rw [List.length_map, List.length_replicate]⟩⟩, World.grownBy_alloc w _ none, fun b hbk => ?_, fun j x hj => ?_⟩
  · rw [List.length_take, Array.length_toList, size_madeCells, List.length_map, List.length_replicate, Nat.min_eq_left (Nat.mul_le_mul_right _ hsz.1)]
  · simp only [blk] at hbk
    split at hbk
    · cases hbk
    · simp at hbk; omega
  · have hjl : j < m * n := by
      have := (List.getElem?_eq_some_iff.1 hj).1
      rwa [length_flatten_of hel, List.length_map, List.length_replicate] at this
    have hm : j = (j / n) * n + j % n := by rw [Nat.mul_comm]; exact (Nat.div_add_mod j n).symm
    have hmn : j % n < n := Nat.mod_lt _ hn
    have hdl' : j / n < m := by rw [Nat.div_lt_iff_lt_mul hn]; exact hjl
    rw [hm, flatten_at hel (i := j / n) (e := C d) (by simp [hdl']) (j % n) hmn] at hj
    have h3 : j % n < zs.length := by omega
    have hjc : j < c * n := Nat.lt_of_lt_of_le hjl (Nat.mul_le_mul_right _ hsz.1)
    have e1 : ((madeCells z.cells (c * n)).toList.take (m * n)).getD j undef = zs[j % n] := by
      simp [List.getD, hjl, madeCells, hzz', hjc, hzl, List.getElem?_eq_getElem h3]
    rw [e1]
    have hd' := congrArg (·[j % n]?) hd
    simp only [List.getElem?_map, hj, List.getElem?_eq_getElem h3, Option.map_some, Option.some.injEq] at hd'
    refine unNil_rel hd'.symm ?_
    rw [List.all_eq_true] at hzall
    exact hzall _ (List.getElem_mem h3)
end

section
variable {P : Program} {G : Glob} {o : Oper} {s : St}
theorem R_indexArr (j : Nat) {t : TypeId} {x i : Operand} (ho : o.op = .index t x i) {len e : Nat} (hu : P.underlying t = some (.array len e)) (hsc : scalar P e = true) (hsz : (P.info? e).map (·.size) = some 1) (hi : aval G s i = vi (j : Int)) {cs : List AV} (hx : aval G s x = .agg cs) {v : AV} (hv : cs[j]? = some v) (hj : j < len) : VStep P G o s v :=
  fun _ a w β ro hr => by
    have h := hr.eval x
    rw [hx] at h
    generalize he : a.eval x = c at h
    cases h with
    | agg _ c hs hc =>
      have hlt : j < c.size := by have := (List.getElem?_eq_some_iff.1 hv).1; omega
      have hse : (sizeOf e).run P w = .ok 1 w := by
        cases hi : P.info? e with
        | none => simp [hi] at hsz
        | some i => simp [hi] at hsz; simp [sizeOf, typeInfo, hi, hsz]
      refine ⟨c[j], ?_, by simpa [hlt] using hc _ v hv⟩
      simp [execOp, ho, he, hr.evalV hi, Instr.index, asIntOf, run_underlying hu, hse, part, run_isAgg_scalar hsc, hlt, hj]
end
section
variable {P : Program} {G : Glob}

/-- What a hint expects of the state. -/
def hexp : Hint P G → AV
  | .run _ => .top
  | .cast u _ _ => u
  | .idx C l n j _ _ => .tuple [.rv (.sl n (l.map C)), vi (j : Int)]
  | .idxS b j _ _ => .tuple [vs b, vi (j : Int)]
  | .len C l n => .rv (.sl n (l.map C))
  | .call f args _ _ _ _ => .tuple (.fn (.func f) [] [] :: args)
  | .take C l n k _ => .tuple [.rv (.sl n (l.map C)), vi (k : Int)]
  | .cut0 C l _ n => .rv (.sl n (l.map C))
  | .app C l m id _ n _ _ => .tuple [.sl id, .rv (.sl n (l.map C)), .rv (.sl n (m.map C))]
  | .mnx _ a b => .tuple [vi a, vi b]
  | .lit _ n es => .rv (.sl n es)
  | .row _ n es => .rv (.sl n es)
  | .rng b => vs b
  | .nils _ _ => .top
  | .frz _ => .top
  | .idxR C l id n j _ => .tuple [.sl id, .rv (.sl n (l.map C)), vi (j : Int)]
  | .lenR C l id n => .tuple [.sl id, .rv (.sl n (l.map C))]
  | .ldR C l id n j off _ _ _ => .tuple [.eptr id j off, .rv (.sl n (l.map C))]
  | .ldR1 C l id n j off _ _ => .tuple [.eptr id j off, .rv (.sl n (l.map C))]
  | .mk C d m c _ _ _ _ => .tuple [vi (m : Int), vi (c : Int), .rv (.ptr ((C d).map unNil))]
  | .idxA j => vi (j : Int)
  | .slc C l n lo hi _ _ => .tuple [.rv (.sl n (l.map C)), (match lo with | some k => vi (k : Int) | none => .top), (match hi with | some k => vi (k : Int) | none => .top)]
  | .slcS b lo hi _ _ => .tuple [vs b, (match lo with | some k => vi (k : Int) | none => .top), (match hi with | some k => vi (k : Int) | none => .top)]
  | .slot _ u _ _ => u
  | .nrow _ _ _ => .top
  | .faR C l id n j off _ _ => .tuple [.eptr id j off, .rv (.sl n (l.map C))]
  | .stR C l id n j off _ e' _ => .tuple [.eptr id j off, .rv (.sl n (l.map C)), .rv (.ptr (C e'))]
  | .fnc => .top
  | .callB f p q args _ _ => .tuple (.fn (.func f) p q :: args)

/-- The elements of an own row. -/
def rowOf (σ : Heap) (id n : Nat) : Option (TypeId × List (List RV)) :=
  match hget σ id with
  | some (.row false t m es) => match Nat.beq m n with
    | true => some (t, es)
    | false => none
  | _ => none

theorem rowOf_spec {σ : Heap} {id n : Nat} {t : TypeId} {es : List (List RV)} (h : rowOf σ id n = some (t, es)) : hget σ id = some (.row false t n es) := by
  unfold rowOf at h
  split at h
  · rename_i t' m es' hg
    split at h
    · rename_i hm
      simp only [Option.some.injEq, Prod.mk.injEq] at h
      obtain ⟨rfl, rfl⟩ := h
      rw [hg, Nat.eq_of_beq_eq_true hm]
    · cases h
  · cases h

/-- The operation with a hint: what is there, and the next state. -/
def hstep (P : Program) (G : Glob) (o : Oper) (s : St) : Hint P G → Option (AV × St)
  | .cast _ v _ => match vstep P G o s with
    | some a => some (a, s.put o.dst v)
    | none => none
  | .idx C _ n _ e _ => match o.op with
    | .indexAddr t x i => match elemSize P t with
      | some n' => match Nat.beq n' n with
        | true => some (.tuple [aval G s x, aval G s i], s.put o.dst (.rv (.ptr (C e))))
        | false => none
      | none => none
    | _ => none
  | .idxS _ _ u _ => match o.op with
    | .index t x i => match isStr P t with
      | true => some (.tuple [aval G s x, aval G s i], s.put o.dst (.rv (.v (.int .u8 (u.toNat : Int)))))
      | false => none
    | _ => none
  | .len _ l _ => match o.op with
    | .call c => match c.callee, c.args.toList, c.argTypes.toList with
      | .builtin .len, [x], [t] => match isSlice P t with
        | true => some (aval G s x, s.put o.dst (vi (l.length : Int)))
        | false => none
      | _, _, _ => none
    | _ => none
  | .call f _ r τ K _ => match o.op with
    | .call c => match c.callee with
      | .value x => match callable P f && (pureL (c.args.toList.map fun y => viewA s.heap (aval G s y)) && (belowA K r && (belowH K τ && Nat.ble s.base s.next))) with
        | true => some (.tuple (aval G s x :: c.args.toList.map fun y => viewA s.heap (aval G s y)), { s with heap := shiftH s.next τ ++ s.heap, next := s.next + K }.put o.dst (shiftA s.next r))
        | false => none
      | _ => none
    | _ => none
  | .take C l n k _ => match o.op with
    | .slice t x none (some y) none => match elemSize P t with
      | some n' => match Nat.beq n' n with
        | true => some (.tuple [aval G s x, aval G s y], s.put o.dst (.rv (.sl n ((l.take k).map C))))
        | false => none
      | none => none
    | _ => none
  | .cut0 _ _ e n => match o.op with
    | .slice t x none (some y) (some z) => match P.underlying t, aval G s y, aval G s z with
      | some (.slice e'), .rv (.v (.int _ (.ofNat 0))), .rv (.v (.int _ (.ofNat 0))) => match Nat.beq e' e && (Nat.ble s.base s.next && ((P.info? e).map (·.size) == some n)) with
        | true => some (aval G s x, { s with heap := (s.next, .row false e n []) :: s.heap, next := s.next + 1 }.put o.dst (.sl s.next))
        | false => none
      | _, _, _ => none
    | _ => none
  | .app C l m id e n bytes _ => match o.op with
    | .call c => match c.callee, c.args.toList, c.argTypes.toList with
      | .builtin .append, [x, y], [t, t'] => match apType P t with
        | some (e', n', b') => match Nat.beq t t' && (Nat.beq e' e && (Nat.beq n' n && (Nat.beq b' bytes && (Nat.ble s.base id && Nat.blt id s.next)))), rowOf s.heap id n with
          | true, some (e2, es) => match Nat.beq e2 e with
            | true => some (.tuple [aval G s x, .rv (.sl n es), aval G s y], St.put ⟨killL id s.slots, (id, .row false e n ((l ++ m).map C)) :: killH id s.heap, s.next, s.base⟩ o.dst (.sl id))
            | false => none
          | _, _ => none
        | none => none
      | _, _, _ => none
    | _ => none
  | .mnx mx a b => match o.op with
    | .call c => match c.callee, c.args.toList, mx with
      | .builtin .min, [x, y], false => some (.tuple [aval G s x, aval G s y], s.put o.dst (vi (if b < a then b else a)))
      | .builtin .max, [x, y], true => some (.tuple [aval G s x, aval G s y], s.put o.dst (vi (if b > a then b else a)))
      | _, _, _ => none
    | _ => none
  | .lit e n es => match o.op with
    | .buildSlice t len parts => match bsRow P G s t len parts.toList with
      | some (e', n', es') => match Nat.beq e' e && Nat.beq n' n with
        | true => some (.rv (.sl n es'), s.put o.dst (.rv (.sl n es)))
        | false => none
      | none => none
    | _ => none
  | .row e n es => match o.op with
    | .buildSlice t len parts => match bsRow P G s t len parts.toList with
      | some (e', n', es') => match Nat.beq e' e && (Nat.beq n' n && Nat.ble s.base s.next) with
        | true => some (.rv (.sl n es'), { s with heap := (s.next, .row false e n es) :: s.heap, next := s.next + 1 }.put o.dst (.sl s.next))
        | false => none
      | none => none
    | _ => none
  | .rng b => match o.op with
    | .range t x => match isStr P t && Nat.ble s.base s.next with
      | true => some (aval G s x, { s with heap := (s.next, .oth (strIt b 0)) :: s.heap, next := s.next + 1 }.put o.dst (.ref s.next))
      | false => none
    | _ => none
  | .idxR _ _ id n j _ => match o.op with
    | .indexAddr t x i => match elemSize P t, rowOf s.heap id n with
      | some n', some (_, es) => match Nat.beq n' n with
        | true => some (.tuple [aval G s x, .rv (.sl n es), aval G s i], s.put o.dst (.eptr id j 0))
        | false => none
      | _, _ => none
    | _ => none
  | .lenR _ l id n => match o.op with
    | .call c => match c.callee, c.args.toList, c.argTypes.toList with
      | .builtin .len, [x], [t] => match isSlice P t, rowOf s.heap id n with
        | true, some (_, es) => some (.tuple [aval G s x, .rv (.sl n es)], s.put o.dst (vi (l.length : Int)))
        | _, _ => none
      | _, _, _ => none
    | _ => none
  | .ldR C _ id n _ off k e _ => match o.op with
    | .load t x => match aggSize P t, rowOf s.heap id n with
      | some k', some (_, es) => match Nat.beq k' k && (Nat.ble 1 k && Nat.ble k ((C e).drop off).length) with
        | true => some (.tuple [aval G s x, .rv (.sl n es)], s.put o.dst (.agg ((((C e).drop off).map AV.rv).take k)))
        | false => none
      | _, _ => none
    | _ => none
  | .ldR1 C _ id n _ off e _ => match o.op with
    | .load t x => match scalar P t, rowOf s.heap id n, (C e).drop off with
      | true, some (_, es), v :: _ => some (.tuple [aval G s x, .rv (.sl n es)], s.put o.dst (.rv v))
      | _, _, _ => none
    | _ => none
  | .slc C l n lo hi _ _ => match o.op with
    | .slice t x olo ohi none => match elemSize P t, olo.isSome == lo.isSome && ohi.isSome == hi.isSome with
      | some n', true => match Nat.beq n' n with
        | true => some (.tuple [aval G s x, (match olo with | some y => aval G s y | none => .top), (match ohi with | some y => aval G s y | none => .top)], s.put o.dst (.rv (.sl n (((l.take (hi.getD l.length)).drop (lo.getD 0)).map C))))
        | false => none
      | _, _ => none
    | _ => none
  | .slcS b lo hi _ _ => match o.op with
    | .slice t x olo ohi none => match isStr P t && (olo.isSome == lo.isSome && ohi.isSome == hi.isSome) with
      | true => some (.tuple [aval G s x, (match olo with | some y => aval G s y | none => .top), (match ohi with | some y => aval G s y | none => .top)], s.put o.dst (vs (b.extract (lo.getD 0) (hi.getD b.size))))
      | false => none
    | _ => none
  | .idxA j => match o.op with
    | .index t x i => match P.underlying t, aval G s x with
      | some (.array len e), .agg cs => match cs[j]?, scalar P e && (Nat.blt j len && ((P.info? e).map (·.size) == some 1)) with
        | some v, true => some (aval G s i, s.put o.dst v)
        | _, _ => none
      | _, _ => none
    | _ => none
  | .mk C d m _ e n bytes _ => match o.op with
    | .makeSlice t x y => match apType P t, zeroCells P e with
      | some (e', n', b'), some zs => match Nat.beq e' e && (Nat.beq n' n && (Nat.beq b' bytes && (zs.all Value.oneCell' && Nat.ble s.base s.next))) with
        | true => some (.tuple [aval G s x, aval G s y, .rv (.ptr (zs.map RV.v))], { s with heap := (s.next, .row false e n ((List.replicate m d).map C)) :: s.heap, next := s.next + 1 }.put o.dst (.sl s.next))
        | false => none
      | _, _ => none
    | _ => none
  | .faR _ _ id n j off _ _ => match o.op with
    | .fieldAddr t x f => match fldOff P t f, rowOf s.heap id n with
      | some k, some (_, es) => some (.tuple [aval G s x, .rv (.sl n es)], s.put o.dst (.eptr id j (off + k)))
      | _, _ => none
    | _ => none
  | .stR C l id n j off e e' _ => match o.op with
    | .store t p x => match rowOf s.heap id n, rvs (vcells (aval G s x)) with
      | some (bt, es), some vs => match ((P.info? t).map (·.size) == some vs.length) && Nat.ble (off + vs.length) n with
        | true => some (.tuple [aval G s p, .rv (.sl n es), .rv (.ptr (splice (C e) off vs))], { s with heap := hset s.heap id (.row false bt n ((l.set j e').map C)) }.put o.dst .top)
        | false => none
      | _, _ => none
    | _ => none
  | .fnc => match o.op with
    | .makeFunc (.func f) p q => some (.top, s.put o.dst (.fn (.func f) (p.toList.map (aval G s)) (q.toList.map (aval G s))))
    | _ => none
  | .callB f p q _ r _ => match o.op with
    | .call c => match c.callee with
      | .value x => match callable P f && (pureL (lendL s.heap (p ++ c.args.toList.map (aval G s) ++ q)) && scalA r) with
        | true => some (.tuple (aval G s x :: lendL s.heap (p ++ c.args.toList.map (aval G s) ++ q)), s.put o.dst r)
        | false => none
      | _ => none
    | _ => none
  | _ => none

theorem tuple2 {a b c d : AV} (h : AV.tuple [a, b] = AV.tuple [c, d]) : a = c ∧ b = d := by simpa using h
theorem tuple3 {a b c d e f : AV} (h : AV.tuple [a, b, c] = AV.tuple [d, e, f]) : a = d ∧ b = e ∧ c = f := by simpa using h
theorem arr1 {α : Type} {a : Array α} {x : α} (h : a.toList = [x]) : a = #[x] := by apply Array.ext'; simpa using h
theorem arr2 {α : Type} {a : Array α} {x y : α} (h : a.toList = [x, y]) : a = #[x, y] := by apply Array.ext'; simpa using h

theorem hstep_sound {o : Oper} {s s' : St} {h : Hint P G} {a : AV} (hs : hstep P G o s h = some (a, s')) (ha : a = hexp h) : OpStep P G o s s' := by
  unfold hstep at hs
  split at hs
  · rename_i u v hv
    split at hs
    · rename_i b hb
      simp only [Option.some.injEq, Prod.mk.injEq] at hs
      obtain ⟨rfl, rfl⟩ := hs
      simp only [hexp] at ha
      subst ha; subst hv
      exact (vstep_sound hb).step
    · cases hs
  · rename_i α C l n j e he
    split at hs
    · rename_i t x i ho
      split at hs
      · rename_i n' hn
        split at hs
        · rename_i hb
          simp only [Option.some.injEq, Prod.mk.injEq] at hs
          obtain ⟨rfl, rfl⟩ := hs
          obtain ⟨h1, h2⟩ := tuple2 ha
          rw [Nat.eq_of_beq_eq_true hb] at hn
          exact (R_indexAddrM C l n j ho hn h2 h1 he).step
        · cases hs
      · cases hs
    · cases hs
  · rename_i b j u hu
    split at hs
    · rename_i t x i ho
      split at hs
      · rename_i ht
        simp only [Option.some.injEq, Prod.mk.injEq] at hs
        obtain ⟨rfl, rfl⟩ := hs
        obtain ⟨h1, h2⟩ := tuple2 ha
        exact (R_indexStrM b j ho (isStr_spec ht) h2 h1 hu).step
      · cases hs
    · cases hs
  · rename_i α C l n
    split at hs
    · rename_i c ho
      split at hs
      · rename_i x t hc hx ht
        split at hs
        · rename_i hsl
          simp only [Option.some.injEq, Prod.mk.injEq] at hs
          obtain ⟨rfl, rfl⟩ := hs
          obtain ⟨callee, args, ts⟩ := c
          simp only at hc hx ht
          rw [hc, arr1 hx, arr1 ht] at ho
          exact (R_lenM C l n ho hsl ha).step
        · cases hs
      · cases hs
    · cases hs
  · rename_i f args r τ K hc
    split at hs
    · rename_i c ho
      split at hs
      · rename_i x hcal
        split at hs
        · rename_i hb
          simp only [Option.some.injEq, Prod.mk.injEq] at hs
          obtain ⟨rfl, rfl⟩ := hs
          simp only [Bool.and_eq_true] at hb
          obtain ⟨callee, xs, ts⟩ := c
          simp only at hcal hb ha
          rw [hcal] at ho
          simp only [hexp, AV.tuple.injEq, List.cons.injEq] at ha
          obtain ⟨h1, h2⟩ := ha
          exact OpStep.call ho h1 hb.1 h2 (h2 ▸ hb.2.1) hc (fun _ _ h => h) hb.2.2.1 hb.2.2.2.1 (Nat.le_of_ble_eq_true hb.2.2.2.2)
        · cases hs
      · cases hs
    · cases hs
  · rename_i α C l n k hk
    split at hs
    · rename_i t x y ho
      split at hs
      · rename_i n' hn
        split at hs
        · rename_i hb
          simp only [Option.some.injEq, Prod.mk.injEq] at hs
          obtain ⟨rfl, rfl⟩ := hs
          obtain ⟨h1, h2⟩ := tuple2 ha
          rw [Nat.eq_of_beq_eq_true hb] at hn
          exact (R_sliceM C l n k ho hn h1 h2 hk).step
        · cases hs
      · cases hs
    · cases hs
  · rename_i α C l e n
    split at hs
    · rename_i t x y z ho
      split at hs
      · rename_i e' k1 k2 hu hy hz
        split at hs
        · rename_i hb
          simp only [Option.some.injEq, Prod.mk.injEq] at hs
          obtain ⟨rfl, rfl⟩ := hs
          simp only [Bool.and_eq_true, beq_iff_eq] at hb
          rw [Nat.eq_of_beq_eq_true hb.1] at hu
          exact R_slice00 t x y z ho hu hb.2.2 (m := l.length) (by rw [ha]; exact alen_map (l := l) (f := C)) hy hz (Nat.le_of_ble_eq_true hb.2.1)
        · cases hs
      · cases hs
    · cases hs
  · rename_i α C l m id e n bytes hsz
    split at hs
    · rename_i c ho
      split at hs
      · rename_i x y t t' hc hx ht
        split at hs
        · rename_i e' n' b' hap
          split at hs
          · rename_i e2 es hb hrow
            split at hs
            · rename_i he2
              simp only [Option.some.injEq, Prod.mk.injEq] at hs
              obtain ⟨rfl, rfl⟩ := hs
              simp only [Bool.and_eq_true] at hb
              obtain ⟨h1, h2, h3⟩ := tuple3 ha
              obtain ⟨callee, args, ts⟩ := c
              simp only at hc hx ht
              rw [hc, arr2 hx, arr2 ht, ← Nat.eq_of_beq_eq_true hb.1] at ho
              rw [Nat.eq_of_beq_eq_true hb.2.1, Nat.eq_of_beq_eq_true hb.2.2.1, Nat.eq_of_beq_eq_true hb.2.2.2.1] at hap
              have hr := rowOf_spec hrow
              rw [Nat.eq_of_beq_eq_true he2] at hr
              simp only [AV.rv.injEq, RV.sl.injEq, true_and] at h2
              rw [h2] at hr
              exact R_appendM C l m id e n bytes ho hap h1 hr (Nat.le_of_ble_eq_true hb.2.2.2.2.1) (Nat.le_of_ble_eq_true hb.2.2.2.2.2) h3 hsz
            · cases hs
          · cases hs
        · cases hs
      · cases hs
    · cases hs
  · rename_i mx a b
    split at hs
    · rename_i c ho
      split at hs
      · rename_i x y hc hx
        simp only [Option.some.injEq, Prod.mk.injEq] at hs
        obtain ⟨rfl, rfl⟩ := hs
        obtain ⟨h1, h2⟩ := tuple2 ha
        obtain ⟨callee, args, ts⟩ := c
        simp only at hc hx
        rw [hc, arr2 hx] at ho
        exact (R_min2 x y ts ho h1 h2).step
      · rename_i x y hc hx
        simp only [Option.some.injEq, Prod.mk.injEq] at hs
        obtain ⟨rfl, rfl⟩ := hs
        obtain ⟨h1, h2⟩ := tuple2 ha
        obtain ⟨callee, args, ts⟩ := c
        simp only at hc hx
        rw [hc, arr2 hx] at ho
        exact (R_max2 x y ts ho h1 h2).step
      · cases hs
    · cases hs
  · rename_i e n es
    split at hs
    · rename_i t len parts ho
      split at hs
      · rename_i e' n' es' hb
        split at hs
        · rename_i hc
          simp only [Option.some.injEq, Prod.mk.injEq] at hs
          obtain ⟨rfl, rfl⟩ := hs
          simp only [Bool.and_eq_true] at hc
          rw [Nat.eq_of_beq_eq_true hc.1, Nat.eq_of_beq_eq_true hc.2] at hb
          simp only [hexp, AV.rv.injEq, RV.sl.injEq, true_and] at ha
          subst ha
          exact OpStep.newRO (R_buildSliceC ho hb)
        · cases hs
      · cases hs
    · cases hs
  · rename_i e n es
    split at hs
    · rename_i t len parts ho
      split at hs
      · rename_i e' n' es' hb
        split at hs
        · rename_i hc
          simp only [Option.some.injEq, Prod.mk.injEq] at hs
          obtain ⟨rfl, rfl⟩ := hs
          simp only [Bool.and_eq_true] at hc
          rw [Nat.eq_of_beq_eq_true hc.1, Nat.eq_of_beq_eq_true hc.2.1] at hb
          simp only [hexp, AV.rv.injEq, RV.sl.injEq, true_and] at ha
          subst ha
          exact OpStep.newRow (Nat.le_of_ble_eq_true hc.2.2) (R_buildSliceC ho hb)
        · cases hs
      · cases hs
    · cases hs
  · rename_i b
    split at hs
    · rename_i t x ho
      split at hs
      · rename_i hc
        simp only [Option.some.injEq, Prod.mk.injEq] at hs
        obtain ⟨rfl, rfl⟩ := hs
        simp only [Bool.and_eq_true] at hc
        exact R_range_str t x ho (isStr_spec hc.1) ha (Nat.le_of_ble_eq_true hc.2)
      · cases hs
    · cases hs
  · rename_i α C l id n j hj
    split at hs
    · rename_i t x i ho
      split at hs
      · rename_i n' bt es hn hrow
        split at hs
        · rename_i hb
          simp only [Option.some.injEq, Prod.mk.injEq] at hs
          obtain ⟨rfl, rfl⟩ := hs
          obtain ⟨h1, h2, h3⟩ := tuple3 ha
          rw [Nat.eq_of_beq_eq_true hb] at hn
          simp only [AV.rv.injEq, RV.sl.injEq, true_and] at h2
          subst h2
          exact (R_indexAddrRow C l id n j ho hn h3 h1 (rowOf_spec hrow) hj).step
        · cases hs
      · cases hs
    · cases hs
  · rename_i α C l id n
    split at hs
    · rename_i c ho
      split at hs
      · rename_i x t hc hx ht
        split at hs
        · rename_i bt es hsl hrow
          simp only [Option.some.injEq, Prod.mk.injEq] at hs
          obtain ⟨rfl, rfl⟩ := hs
          obtain ⟨h1, h2⟩ := tuple2 ha
          obtain ⟨callee, args, ts⟩ := c
          simp only at hc hx ht
          rw [hc, arr1 hx, arr1 ht] at ho
          simp only [AV.rv.injEq, RV.sl.injEq, true_and] at h2
          subst h2
          exact (R_lenRow C l id n ho hsl h1 (rowOf_spec hrow)).step
        · cases hs
      · cases hs
    · cases hs
  · rename_i α C l id n j off k e he
    split at hs
    · rename_i t x ho
      split at hs
      · rename_i k' bt es hk hrow
        split at hs
        · rename_i hb
          simp only [Option.some.injEq, Prod.mk.injEq] at hs
          obtain ⟨rfl, rfl⟩ := hs
          simp only [Bool.and_eq_true] at hb
          obtain ⟨h1, h2⟩ := tuple2 ha
          rw [Nat.eq_of_beq_eq_true hb.1] at hk
          simp only [AV.rv.injEq, RV.sl.injEq, true_and] at h2
          subst h2
          exact (R_loadRow C l id n j off k ho hk h1 (rowOf_spec hrow) he hb.2.2 hb.2.1 rfl).step
        · cases hs
      · cases hs
    · cases hs
  · rename_i α C l id n j off e he
    split at hs
    · rename_i t x ho
      split at hs
      · rename_i bt es v vs hsc hrow hd
        simp only [Option.some.injEq, Prod.mk.injEq] at hs
        obtain ⟨rfl, rfl⟩ := hs
        obtain ⟨h1, h2⟩ := tuple2 ha
        simp only [AV.rv.injEq, RV.sl.injEq, true_and] at h2
        subst h2
        exact (R_loadRow1 C l id n j off ho hsc h1 (rowOf_spec hrow) he hd).step
      · cases hs
    · cases hs
  · rename_i α C l n lo hi hle1 hle2
    split at hs
    · rename_i t x olo ohi ho
      split at hs
      · rename_i n' hn hb
        split at hs
        · rename_i hbn
          simp only [Option.some.injEq, Prod.mk.injEq] at hs
          obtain ⟨rfl, rfl⟩ := hs
          simp only [Bool.and_eq_true, beq_iff_eq] at hb
          obtain ⟨h1, h2, h3⟩ := tuple3 ha
          rw [Nat.eq_of_beq_eq_true hbn] at hn
          refine (R_slice t x olo ohi ho hn h1 (l := lo.getD 0) (h := hi.getD l.length) ?_ ?_ hle1 (by simpa using hle2) (by rw [List.map_drop, List.map_take])).step
          · cases olo with
            | none => cases lo with
              | none => exact .inl ⟨rfl, rfl⟩
              | some k => simp at hb
            | some y => cases lo with
              | none => simp at hb
              | some k => exact .inr ⟨y, _, rfl, h2⟩
          · cases ohi with
            | none => cases hi with
              | none => exact .inl ⟨rfl, by simp⟩
              | some k => simp at hb
            | some y => cases hi with
              | none => simp at hb
              | some k => exact .inr ⟨y, _, rfl, h3⟩
        · cases hs
      · cases hs
    · cases hs
  · rename_i b lo hi hle1 hle2
    split at hs
    · rename_i t x olo ohi ho
      split at hs
      · rename_i hb
        simp only [Option.some.injEq, Prod.mk.injEq] at hs
        obtain ⟨rfl, rfl⟩ := hs
        simp only [Bool.and_eq_true, beq_iff_eq] at hb
        obtain ⟨h1, h2, h3⟩ := tuple3 ha
        refine (R_slice_str t x olo ohi ho (isStr_spec hb.1) h1 (l := lo.getD 0) (h := hi.getD b.size) ?_ ?_ hle1 hle2).step
        · cases olo with
          | none => cases lo with
            | none => exact .inl ⟨rfl, rfl⟩
            | some k => simp at hb
          | some y => cases lo with
            | none => simp at hb
            | some k => exact .inr ⟨y, _, rfl, h2⟩
        · cases ohi with
          | none => cases hi with
            | none => exact .inl ⟨rfl, rfl⟩
            | some k => simp at hb
          | some y => cases hi with
            | none => simp at hb
            | some k => exact .inr ⟨y, _, rfl, h3⟩
      · cases hs
    · cases hs
  · rename_i j
    split at hs
    · rename_i t x i ho
      split at hs
      · rename_i len e cs hu hx
        split at hs
        · rename_i v hv hb
          simp only [Option.some.injEq, Prod.mk.injEq] at hs
          obtain ⟨rfl, rfl⟩ := hs
          simp only [Bool.and_eq_true, beq_iff_eq, Nat.blt_eq] at hb
          exact (R_indexArr j ho hu hb.1 hb.2.2 ha hx hv hb.2.1).step
        · cases hs
      · cases hs
    · cases hs
  · rename_i α C d m c e n bytes hsz
    split at hs
    · rename_i t x y ho
      split at hs
      · rename_i e' n' b' zs hap hz
        split at hs
        · rename_i hb
          simp only [Option.some.injEq, Prod.mk.injEq] at hs
          obtain ⟨rfl, rfl⟩ := hs
          simp only [Bool.and_eq_true] at hb
          rw [Nat.eq_of_beq_eq_true hb.1, Nat.eq_of_beq_eq_true hb.2.1, Nat.eq_of_beq_eq_true hb.2.2.1] at hap
          obtain ⟨h1, h2, h3⟩ := tuple3 ha
          simp only [AV.rv.injEq, RV.ptr.injEq] at h3
          exact OpStep.newRow (Nat.le_of_ble_eq_true hb.2.2.2.2) (R_mk C d m c ho hap hz hb.2.2.2.1 h3 h1 h2 hsz)
        · cases hs
      · cases hs
    · cases hs
  · rename_i α C l id n j off e he
    split at hs
    · rename_i t x f ho
      split at hs
      · rename_i k bt es hk hrow
        simp only [Option.some.injEq, Prod.mk.injEq] at hs
        obtain ⟨rfl, rfl⟩ := hs
        obtain ⟨h1, h2⟩ := tuple2 ha
        simp only [AV.rv.injEq, RV.sl.injEq, true_and] at h2
        subst h2
        exact (R_fieldAddr t x f ho hk (cs := ((C e).drop off).map AV.rv) (by rw [h1]; simp [acells, rowOf_spec hrow, he]) (by rw [h1]; rfl)).step
      · cases hs
    · cases hs
  · rename_i α C l id n j off e e' he
    split at hs
    · rename_i t p x ho
      split at hs
      · rename_i bt es vs hrow hvs
        split at hs
        · rename_i hb
          simp only [Option.some.injEq, Prod.mk.injEq] at hs
          obtain ⟨rfl, rfl⟩ := hs
          simp only [Bool.and_eq_true, beq_iff_eq] at hb
          obtain ⟨h1, h2, h3⟩ := tuple3 ha
          simp only [AV.rv.injEq, RV.sl.injEq, true_and] at h2
          subst h2
          simp only [AV.rv.injEq, RV.ptr.injEq] at h3
          exact R_storeRow C l id n j off ho h1 (rowOf_spec hrow) he e' hvs hb.1 hb.2 h3
        · cases hs
      · cases hs
    · cases hs
  · split at hs
    · rename_i f p q ho
      simp only [Option.some.injEq, Prod.mk.injEq] at hs
      obtain ⟨rfl, rfl⟩ := hs
      exact (R_makeFunc ho).step
    · cases hs
  · rename_i f p q args r hc
    split at hs
    · rename_i c ho
      split at hs
      · rename_i x hcal
        split at hs
        · rename_i hb
          simp only [Option.some.injEq, Prod.mk.injEq] at hs
          obtain ⟨rfl, rfl⟩ := hs
          simp only [Bool.and_eq_true] at hb
          obtain ⟨callee, xs, ts⟩ := c
          simp only at hcal hb ha
          rw [hcal] at ho
          simp only [hexp, AV.tuple.injEq, List.cons.injEq] at ha
          obtain ⟨h1, h2⟩ := ha
          exact OpStep.callB ho h1 hb.1 h2 (h2 ▸ hb.2.1) hc hb.2.2
        · cases hs
      · cases hs
    · cases hs
  · cases hs
end
end Go.Av
