/- The AV calculus, part U: regions walked by lists of hints; states given by what is known of them. Conditions: none. -/
import Derived.Test.YtnnlaccdendkpaaVNa
import Derived.LoopN
namespace Go.Av
open Go

inductive Hint (P : Program) (G : Glob) : Type 1 where
 | run (n : Nat)
 | cast (u v : AV) (h : u = v)
 | idx {α : Type} (C : α → List RV) (l : List α) (n j : Nat) (e : α) (h : l[j]? = some e)
 | idxS (b : ByteArray) (j : Nat) (u : UInt8) (h : b.data.toList[j]? = some u)
 | len {α : Type} (C : α → List RV) (l : List α) (n : Nat)
 | call (f : FuncId) (args : List AV) (r : AV) (τ : Heap) (K : Nat) (h : ACalls P G f args [] 0 fun r1 τ1 => r1 = r ∧ τ1 = τ)
 | take {α : Type} (C : α → List RV) (l : List α) (n k : Nat) (h : k ≤ l.length)
 | cut0 {α : Type} (C : α → List RV) (l : List α) (e n : Nat)
 | app {α : Type} (C : α → List RV) (l m : List α) (id e n bytes : Nat) (h : l.length + m.length ≤ maxLen ∧ (l.length + m.length) * bytes ≤ 140737488355328)
 | mnx (mx : Bool) (a b : Int)
 | lit (e n : Nat) (es : List (List RV))
 | row (e n : Nat) (es : List (List RV))
 | rng (b : ByteArray)
 | nils (k : Nat) (m : List (Option Nat))
 | frz (id : Nat)
 | idxR {α : Type} (C : α → List RV) (l : List α) (id n j : Nat) (h : j < l.length)
 | lenR {α : Type} (C : α → List RV) (l : List α) (id n : Nat)
 | ldR {α : Type} (C : α → List RV) (l : List α) (id n j off k : Nat) (e : α) (h : l[j]? = some e)
 | ldR1 {α : Type} (C : α → List RV) (l : List α) (id n j off : Nat) (e : α) (h : l[j]? = some e)
 | mk {α : Type} (C : α → List RV) (d : α) (m c e n bytes : Nat) (h : m ≤ c ∧ c ≤ maxLen ∧ bytes * c ≤ 281474976710656)
 | idxA (j : Nat)
 | slc {α : Type} (C : α → List RV) (l : List α) (n : Nat) (lo hi : Option Nat) (h1 : lo.getD 0 ≤ hi.getD l.length) (h2 : hi.getD l.length ≤ l.length)
 | slcS (b : ByteArray) (lo hi : Option Nat) (h1 : lo.getD 0 ≤ hi.getD b.size) (h2 : hi.getD b.size ≤ b.size)
 | slot (k : Nat) (u v : AV) (h : u = v)
 | nrow (k e n : Nat)
 | faR {α : Type} (C : α → List RV) (l : List α) (id n j off : Nat) (e : α) (h : l[j]? = some e)
 | stR {α : Type} (C : α → List RV) (l : List α) (id n j off : Nat) (e e' : α) (h : l[j]? = some e)
 | fnc
 | callB (f : FuncId) (p q args : List AV) (r : AV) (h : ACalls P G f args [] 0 fun r1 τ1 => r1 = r ∧ τ1 = [])

def unNil : RV → RV
 | .sl _ [] => .v (.slice none 0 0)
 | x => x
theorem unNil_rel {w : World} {ro : Nat → Prop} {x : RV} {v : Value} (h : unNil x = .v v) (hv : v.oneCell' = true) : RRel w ro x v := by
 unfold unNil at h
 split at h
 ·rename_i n
  simp only [RV.v.injEq] at h
  subst h
  exact .sl n [] none 0 (fun _ => undef) (Nat.le_refl _) (Nat.zero_le _) (by simp) (by simp) (by simp)
 ·subst h
  exact .v _ hv

section
variable {P : Program} {G : Glob} {o : Oper} {s : St}
theorem R_mk {α : Type} (C : α → List RV) (d : α) (m c : Nat) {t : TypeId} {x y : Operand} (ho : o.op = .makeSlice t x y) {e n bytes : Nat} (ht : apType P t = some (e, n, bytes)) {zs : List Value} (hz : zeroCells P e = some zs) (hzall : zs.all Value.oneCell' = true)
    (hd : zs.map RV.v = (C d).map unNil) (hx : aval G s x = vi (m : Int)) (hy : aval G s y = vi (c : Int)) (hsz : m ≤ c ∧ c ≤ maxLen ∧ bytes * c ≤ 281474976710656) :
    NRow P G o s e n ((List.replicate m d).map C) := by
  obtain ⟨i, z, hu, hi, hzz, hsize, hby, hzs, hn⟩ := apType_spec ht
  obtain ⟨z', _, hzc, i', hi', hz'⟩ := run_zero (P := P) hz default
  have hzz' : z.cells = zs.toArray := by
    rw [hi] at hi'
    simp only [Option.some.injEq] at hi'
    subst hi'
    rw [hzz] at hz'
    simp only [Option.some.injEq] at hz'
    subst hz'
    exact hzc
  have hzl : zs.length = n := by rw [← hzs, hzz']; simp
  have hdl : (C d).length = n := by rw [← hzl]; have := congrArg List.length hd; simpa using this.symm
  have hel : ∀ q ∈ (List.replicate m d).map C, q.length = n := by
    intro q hq
    rw [List.mem_map] at hq
    obtain ⟨u, hu, rfl⟩ := hq
    rw [List.mem_replicate] at hu
    rw [hu.2]; exact hdl
  refine ⟨hel, fun E a w β ro hr => ?_⟩
  have hc63 : (c : Int) ≤ 9223372036854775807 := by
    have h := hsz.2.1
    simp only [maxLen] at h
    omega
  have hbc : (i.bytes : Int) * (c : Int) ≤ 281474976710656 := by
    have h : ((i.bytes * c : Nat) : Int) ≤ 281474976710656 := by rw [hby]; have := hsz.2.2; omega
    rwa [Int.natCast_mul] at h
  have hrun := run_make (P := P) w t e i z hu hi hzz .i64 .i64 (m : Int) (c : Int) (by omega) (by have := hsz.1; omega) hbc hc63
  simp only [Int.toNat_natCast, hsize] at hrun
  refine ⟨.slice (some ⟨w.heap.size, 0, none⟩) m c, (madeCells z.cells (c * n)).toList.take (m * n), _, by simp only [execOp, ho, hr.evalV hx, hr.evalV hy, Sem.run_bind, hrun, Result.andThen_ok, Sem.run_pure], ⟨?_, .inr ⟨w.heap.size, c, madeCells z.cells (c * n), by rw [List.length_map, List.length_replicate], Nat.zero_le _, heap_alloc_new w _, by rw [List.length_map, List.length_replicate]; exact hsz.1, hsz.2.1, size_madeCells _ _, by rw [List.length_map, List.length_replicate]⟩⟩, World.grownBy_alloc w _ none, fun b hbk => ?_, fun j x hj => ?_⟩
  · rw [List.length_take, Array.length_toList, size_madeCells, List.length_map, List.length_replicate, Nat.min_eq_left (Nat.mul_le_mul_right _ hsz.1)]
  · simp only [blk] at hbk
    split at hbk
    · cases hbk
    · simp at hbk; omega
  · have hjl : j < m * n := by
      have := (List.getElem?_eq_some_iff.1 hj).1
      rwa [length_flatten_of hel, List.length_map, List.length_replicate] at this
    have hm : j = (j / n) * n + j % n := by rw [Nat.mul_comm]; exact (Nat.div_add_mod j n).symm
    have hmn : j % n < n := Nat.mod_lt _ hn
    have hdl' : j / n < m := by rw [Nat.div_lt_iff_lt_mul hn]; exact hjl
    rw [hm, flatten_at hel (i := j / n) (e := C d) (by simp [hdl']) (j % n) hmn] at hj
    have h3 : j % n < zs.length := by omega
    have hjc : j < c * n := Nat.lt_of_lt_of_le hjl (Nat.mul_le_mul_right _ hsz.1)
    have e1 : ((madeCells z.cells (c * n)).toList.take (m * n)).getD j undef = zs[j % n] := by
      simp [List.getD, hjl, madeCells, hzz', hjc, hzl, List.getElem?_eq_getElem h3]
    rw [e1]
    have hd' := congrArg (·[j % n]?) hd
    simp only [List.getElem?_map, hj, List.getElem?_eq_getElem h3, Option.map_some, Option.some.injEq] at hd'
    refine unNil_rel hd'.symm ?_
    rw [List.all_eq_true] at hzall
    exact hzall _ (List.getElem_mem h3)
end

section
variable {P : Program} {G : Glob} {o : Oper} {s : St}
theorem R_indexArr (j : Nat) {t : TypeId} {x i : Operand} (ho : o.op = .index t x i) {len e : Nat} (hu : P.underlying t = some (.array len e)) (hsc : scalar P e = true) (hsz : (P.info? e).map (·.size) = some 1) (hi : aval G s i = vi (j : Int)) {cs : List AV} (hx : aval G s x = .agg cs) {v : AV} (hv : cs[j]? = some v) (hj : j < len) : VStep P G o s v :=
 fun _ a w β ro hr => by
  have h := hr.eval x
  rw [hx] at h
  generalize he : a.eval x = c at h
  cases h with
  | agg _ c hs hc =>
   have hlt : j < c.size := by have := (List.getElem?_eq_some_iff.1 hv).1; omega
   have hse : (sizeOf e).run P w = .ok 1 w := by
    cases hi : P.info? e with
    | none => simp [hi] at hsz
    | some i => simp [hi] at hsz; simp [sizeOf, typeInfo, hi, hsz]
   refine ⟨c[j], ?_, by simpa [hlt] using hc _ v hv⟩
   simp [execOp, ho, he, hr.evalV hi, Instr.index, asIntOf, run_underlying hu, hse, part, run_isAgg_scalar hsc, hlt, hj]
end
section
variable {P : Program} {G : Glob}

def hexp : Hint P G → AV
 | .run _ => .top
 | .cast u _ _ => u
 | .idx C l n j _ _ => .tuple [.rv (.sl n (l.map C)), vi (j : Int)]
 | .idxS b j _ _ => .tuple [vs b, vi (j : Int)]
 | .len C l n => .rv (.sl n (l.map C))
 | .call f args _ _ _ _ => .tuple (.fn (.func f) [] [] :: args)
 | .take C l n k _ => .tuple [.rv (.sl n (l.map C)), vi (k : Int)]
 | .cut0 C l _ n => .rv (.sl n (l.map C))
 | .app C l m id _ n _ _ => .tuple [.sl id, .rv (.sl n (l.map C)), .rv (.sl n (m.map C))]
 | .mnx _ a b => .tuple [vi a, vi b]
 | .lit _ n es => .rv (.sl n es)
 | .row _ n es => .rv (.sl n es)
 | .rng b => vs b
 | .nils _ _ => .top
 | .frz _ => .top
 | .idxR C l id n j _ => .tuple [.sl id, .rv (.sl n (l.map C)), vi (j : Int)]
 | .lenR C l id n => .tuple [.sl id, .rv (.sl n (l.map C))]
 | .ldR C l id n j off _ _ _ => .tuple [.eptr id j off, .rv (.sl n (l.map C))]
 | .ldR1 C l id n j off _ _ => .tuple [.eptr id j off, .rv (.sl n (l.map C))]
 | .mk C d m c _ _ _ _ => .tuple [vi (m : Int), vi (c : Int), .rv (.ptr ((C d).map unNil))]
 | .idxA j => vi (j : Int)
 | .slc C l n lo hi _ _ => .tuple [.rv (.sl n (l.map C)), (match lo with | some k => vi (k : Int) | none => .top), (match hi with | some k => vi (k : Int) | none => .top)]
 | .slcS b lo hi _ _ => .tuple [vs b, (match lo with | some k => vi (k : Int) | none => .top), (match hi with | some k => vi (k : Int) | none => .top)]
 | .slot _ u _ _ => u
 | .nrow _ _ _ => .top
 | .faR C l id n j off _ _ => .tuple [.eptr id j off, .rv (.sl n (l.map C))]
 | .stR C l id n j off _ e' _ => .tuple [.eptr id j off, .rv (.sl n (l.map C)), .rv (.ptr (C e'))]
 | .fnc => .top
 | .callB f p q args _ _ => .tuple (.fn (.func f) p q :: args)

def rowOf (σ : Heap) (id n : Nat) : Option (TypeId × List (List RV)) :=
 match hget σ id with
 | some (.row false t m es) => match Nat.beq m n with
  | true => some (t, es)
  | false => none
 | _ => none

theorem rowOf_spec {σ : Heap} {id n : Nat} {t : TypeId} {es : List (List RV)} (h : rowOf σ id n = some (t, es)) : hget σ id = some (.row false t n es) := by
 unfold rowOf at h
 split at h
 ·rename_i t' m es' hg
  split at h
  ·rename_i hm
   simp only [Option.some.injEq, Prod.mk.injEq] at h
   obtain ⟨rfl, rfl⟩ := h
   rw [hg, Nat.eq_of_beq_eq_true hm]
  ·cases h
 ·cases h

def hstep (P : Program) (G : Glob) (o : Oper) (s : St) : Hint P G → Option (AV × St)
 | .cast _ v _ => match vstep P G o s with
  | some a => some (a, s.put o.dst v)
  | none => none
 | .idx C _ n _ e _ => match o.op with
  | .indexAddr t x i => match elemSize P t with
   | some n' => match Nat.beq n' n with
    | true => some (.tuple [aval G s x, aval G s i], s.put o.dst (.rv (.ptr (C e))))
    | false => none
   | none => none
  | _ => none
 | .idxS _ _ u _ => match o.op with
  | .index t x i => match isStr P t with
   | true => some (.tuple [aval G s x, aval G s i], s.put o.dst (.rv (.v (.int .u8 (u.toNat : Int)))))
   | false => none
  | _ => none
 | .len _ l _ => match o.op with
  | .call c => match c.callee, c.args.toList, c.argTypes.toList with
   | .builtin .len, [x], [t] => match isSlice P t with
    | true => some (aval G s x, s.put o.dst (vi (l.length : Int)))
    | false => none
   | _, _, _ => none
  | _ => none
 | .call f _ r τ K _ => match o.op with
  | .call c => match c.callee with
   | .value x => match callable P f && (pureL (c.args.toList.map fun y => viewA s.heap (aval G s y)) && (belowA K r && (belowH K τ && Nat.ble s.base s.next))) with
    | true => some (.tuple (aval G s x :: c.args.toList.map fun y => viewA s.heap (aval G s y)), { s with heap := shiftH s.next τ ++ s.heap, next := s.next + K }.put o.dst (shiftA s.next r))
    | false => none
   | _ => none
  | _ => none
 | .take C l n k _ => match o.op with
  | .slice t x none (some y) none => match elemSize P t with
   | some n' => match Nat.beq n' n with
    | true => some (.tuple [aval G s x, aval G s y], s.put o.dst (.rv (.sl n ((l.take k).map C))))
    | false => none
   | none => none
  | _ => none
 | .cut0 _ _ e n => match o.op with
  | .slice t x none (some y) (some z) => match P.underlying t, aval G s y, aval G s z with
   | some (.slice e'), .rv (.v (.int _ (.ofNat 0))), .rv (.v (.int _ (.ofNat 0))) => match Nat.beq e' e && (Nat.ble s.base s.next && ((P.info? e).map (·.size) == some n)) with
    | true => some (aval G s x, { s with heap := (s.next, .row false e n []) :: s.heap, next := s.next + 1 }.put o.dst (.sl s.next))
    | false => none
   | _, _, _ => none
  | _ => none
 | .app C l m id e n bytes _ => match o.op with
  | .call c => match c.callee, c.args.toList, c.argTypes.toList with
   | .builtin .append, [x, y], [t, t'] => match apType P t with
    | some (e', n', b') => match Nat.beq t t' && (Nat.beq e' e && (Nat.beq n' n && (Nat.beq b' bytes && (Nat.ble s.base id && Nat.blt id s.next)))), rowOf s.heap id n with
     | true, some (e2, es) => match Nat.beq e2 e with
      | true => some (.tuple [aval G s x, .rv (.sl n es), aval G s y], St.put ⟨killL id s.slots, (id, .row false e n ((l ++ m).map C)) :: killH id s.heap, s.next, s.base⟩ o.dst (.sl id))
      | false => none
     | _, _ => none
    | none => none
   | _, _, _ => none
  | _ => none
 | .mnx mx a b => match o.op with
  | .call c => match c.callee, c.args.toList, mx with
   | .builtin .min, [x, y], false => some (.tuple [aval G s x, aval G s y], s.put o.dst (vi (if b < a then b else a)))
   | .builtin .max, [x, y], true => some (.tuple [aval G s x, aval G s y], s.put o.dst (vi (if b > a then b else a)))
   | _, _, _ => none
  | _ => none
 | .lit e n es => match o.op with
  | .buildSlice t len parts => match bsRow P G s t len parts.toList with
   | some (e', n', es') => match Nat.beq e' e && Nat.beq n' n with
    | true => some (.rv (.sl n es'), s.put o.dst (.rv (.sl n es)))
    | false => none
   | none => none
  | _ => none
 | .row e n es => match o.op with
  | .buildSlice t len parts => match bsRow P G s t len parts.toList with
   | some (e', n', es') => match Nat.beq e' e && (Nat.beq n' n && Nat.ble s.base s.next) with
    | true => some (.rv (.sl n es'), { s with heap := (s.next, .row false e n es) :: s.heap, next := s.next + 1 }.put o.dst (.sl s.next))
    | false => none
   | none => none
  | _ => none
 | .rng b => match o.op with
  | .range t x => match isStr P t && Nat.ble s.base s.next with
   | true => some (aval G s x, { s with heap := (s.next, .oth (strIt b 0)) :: s.heap, next := s.next + 1 }.put o.dst (.ref s.next))
   | false => none
  | _ => none
 | .idxR _ _ id n j _ => match o.op with
  | .indexAddr t x i => match elemSize P t, rowOf s.heap id n with
   | some n', some (_, es) => match Nat.beq n' n with
    | true => some (.tuple [aval G s x, .rv (.sl n es), aval G s i], s.put o.dst (.eptr id j 0))
    | false => none
   | _, _ => none
  | _ => none
 | .lenR _ l id n => match o.op with
  | .call c => match c.callee, c.args.toList, c.argTypes.toList with
   | .builtin .len, [x], [t] => match isSlice P t, rowOf s.heap id n with
    | true, some (_, es) => some (.tuple [aval G s x, .rv (.sl n es)], s.put o.dst (vi (l.length : Int)))
    | _, _ => none
   | _, _, _ => none
  | _ => none
 | .ldR C _ id n _ off k e _ => match o.op with
  | .load t x => match aggSize P t, rowOf s.heap id n with
   | some k', some (_, es) => match Nat.beq k' k && (Nat.ble 1 k && Nat.ble k ((C e).drop off).length) with
    | true => some (.tuple [aval G s x, .rv (.sl n es)], s.put o.dst (.agg ((((C e).drop off).map AV.rv).take k)))
    | false => none
   | _, _ => none
  | _ => none
 | .ldR1 C _ id n _ off e _ => match o.op with
  | .load t x => match scalar P t, rowOf s.heap id n, (C e).drop off with
   | true, some (_, es), v :: _ => some (.tuple [aval G s x, .rv (.sl n es)], s.put o.dst (.rv v))
   | _, _, _ => none
  | _ => none
 | .slc C l n lo hi _ _ => match o.op with
  | .slice t x olo ohi none => match elemSize P t, olo.isSome == lo.isSome && ohi.isSome == hi.isSome with
   | some n', true => match Nat.beq n' n with
    | true => some (.tuple [aval G s x, (match olo with | some y => aval G s y | none => .top), (match ohi with | some y => aval G s y | none => .top)], s.put o.dst (.rv (.sl n (((l.take (hi.getD l.length)).drop (lo.getD 0)).map C))))
    | false => none
   | _, _ => none
  | _ => none
 | .slcS b lo hi _ _ => match o.op with
  | .slice t x olo ohi none => match isStr P t && (olo.isSome == lo.isSome && ohi.isSome == hi.isSome) with
   | true => some (.tuple [aval G s x, (match olo with | some y => aval G s y | none => .top), (match ohi with | some y => aval G s y | none => .top)], s.put o.dst (vs (b.extract (lo.getD 0) (hi.getD b.size))))
   | false => none
  | _ => none
 | .idxA j => match o.op with
  | .index t x i => match P.underlying t, aval G s x with
   | some (.array len e), .agg cs => match cs[j]?, scalar P e && (Nat.blt j len && ((P.info? e).map (·.size) == some 1)) with
    | some v, true => some (aval G s i, s.put o.dst v)
    | _, _ => none
   | _, _ => none
  | _ => none
 | .mk C d m _ e n bytes _ => match o.op with
  | .makeSlice t x y => match apType P t, zeroCells P e with
   | some (e', n', b'), some zs => match Nat.beq e' e && (Nat.beq n' n && (Nat.beq b' bytes && (zs.all Value.oneCell' && Nat.ble s.base s.next))) with
    | true => some (.tuple [aval G s x, aval G s y, .rv (.ptr (zs.map RV.v))], { s with heap := (s.next, .row false e n ((List.replicate m d).map C)) :: s.heap, next := s.next + 1 }.put o.dst (.sl s.next))
    | false => none
   | _, _ => none
  | _ => none
 | .faR _ _ id n j off _ _ => match o.op with
  | .fieldAddr t x f => match fldOff P t f, rowOf s.heap id n with
   | some k, some (_, es) => some (.tuple [aval G s x, .rv (.sl n es)], s.put o.dst (.eptr id j (off + k)))
   | _, _ => none
  | _ => none
 | .stR C l id n j off e e' _ => match o.op with
  | .store t p x => match rowOf s.heap id n, rvs (vcells (aval G s x)) with
   | some (bt, es), some vs => match ((P.info? t).map (·.size) == some vs.length) && Nat.ble (off + vs.length) n with
    | true => some (.tuple [aval G s p, .rv (.sl n es), .rv (.ptr (splice (C e) off vs))], { s with heap := hset s.heap id (.row false bt n ((l.set j e').map C)) }.put o.dst .top)
    | false => none
   | _, _ => none
  | _ => none
 | .fnc => match o.op with
  | .makeFunc (.func f) p q => some (.top, s.put o.dst (.fn (.func f) (p.toList.map (aval G s)) (q.toList.map (aval G s))))
  | _ => none
 | .callB f p q _ r _ => match o.op with
  | .call c => match c.callee with
   | .value x => match callable P f && (pureL (lendL s.heap (p ++ c.args.toList.map (aval G s) ++ q)) && scalA r) with
    | true => some (.tuple (aval G s x :: lendL s.heap (p ++ c.args.toList.map (aval G s) ++ q)), s.put o.dst r)
    | false => none
   | _ => none
  | _ => none
 | _ => none

theorem tuple2 {a b c d : AV} (h : AV.tuple [a, b] = AV.tuple [c, d]) : a = c ∧ b = d := by simpa using h
theorem tuple3 {a b c d e f : AV} (h : AV.tuple [a, b, c] = AV.tuple [d, e, f]) : a = d ∧ b = e ∧ c = f := by simpa using h
theorem arr1 {α : Type} {a : Array α} {x : α} (h : a.toList = [x]) : a = #[x] := by apply Array.ext'; simpa using h
theorem arr2 {α : Type} {a : Array α} {x y : α} (h : a.toList = [x, y]) : a = #[x, y] := by apply Array.ext'; simpa using h

theorem hstep_sound {o : Oper} {s s' : St} {h : Hint P G} {a : AV} (hs : hstep P G o s h = some (a, s')) (ha : a = hexp h) : OpStep P G o s s' := by
 unfold hstep at hs
 split at hs
 ·rename_i u v hv
  split at hs
  ·rename_i b hb
   simp only [Option.some.injEq, Prod.mk.injEq] at hs
   obtain ⟨rfl, rfl⟩ := hs
   simp only [hexp] at ha
   subst ha; subst hv
   exact (vstep_sound hb).step
  ·cases hs
 ·rename_i α C l n j e he
  split at hs
  ·rename_i t x i ho
   split at hs
   ·rename_i n' hn
    split at hs
    ·rename_i hb
     simp only [Option.some.injEq, Prod.mk.injEq] at hs
     obtain ⟨rfl, rfl⟩ := hs
     obtain ⟨h1, h2⟩ := tuple2 ha
     rw [Nat.eq_of_beq_eq_true hb] at hn
     exact (R_indexAddrM C l n j ho hn h2 h1 he).step
    ·cases hs
   ·cases hs
  ·cases hs
 ·rename_i b j u hu
  split at hs
  ·rename_i t x i ho
   split at hs
   ·rename_i ht
    simp only [Option.some.injEq, Prod.mk.injEq] at hs
    obtain ⟨rfl, rfl⟩ := hs
    obtain ⟨h1, h2⟩ := tuple2 ha
    exact (R_indexStrM b j ho (isStr_spec ht) h2 h1 hu).step
   ·cases hs
  ·cases hs
 ·rename_i α C l n
  split at hs
  ·rename_i c ho
   split at hs
   ·rename_i x t hc hx ht
    split at hs
    ·rename_i hsl
     simp only [Option.some.injEq, Prod.mk.injEq] at hs
     obtain ⟨rfl, rfl⟩ := hs
     obtain ⟨callee, args, ts⟩ := c
     simp only at hc hx ht
     rw [hc, arr1 hx, arr1 ht] at ho
     exact (R_lenM C l n ho hsl ha).step
    ·cases hs
   ·cases hs
  ·cases hs
 ·rename_i f args r τ K hc
  split at hs
  ·rename_i c ho
   split at hs
   ·rename_i x hcal
    split at hs
    ·rename_i hb
     simp only [Option.some.injEq, Prod.mk.injEq] at hs
     obtain ⟨rfl, rfl⟩ := hs
     simp only [Bool.and_eq_true] at hb
     obtain ⟨callee, xs, ts⟩ := c
     simp only at hcal hb ha
     rw [hcal] at ho
     simp only [hexp, AV.tuple.injEq, List.cons.injEq] at ha
     obtain ⟨h1, h2⟩ := ha
     exact OpStep.call ho h1 hb.1 h2 (h2 ▸ hb.2.1) hc (fun _ _ h => h) hb.2.2.1 hb.2.2.2.1 (Nat.le_of_ble_eq_true hb.2.2.2.2)
    ·cases hs
   ·cases hs
  ·cases hs
 ·rename_i α C l n k hk
  split at hs
  ·rename_i t x y ho
   split at hs
   ·rename_i n' hn
    split at hs
    ·rename_i hb
     simp only [Option.some.injEq, Prod.mk.injEq] at hs
     obtain ⟨rfl, rfl⟩ := hs
     obtain ⟨h1, h2⟩ := tuple2 ha
     rw [Nat.eq_of_beq_eq_true hb] at hn
     exact (R_sliceM C l n k ho hn h1 h2 hk).step
    ·cases hs
   ·cases hs
  ·cases hs
 ·rename_i α C l e n
  split at hs
  ·rename_i t x y z ho
   split at hs
   ·rename_i e' k1 k2 hu hy hz
    split at hs
    ·rename_i hb
     simp only [Option.some.injEq, Prod.mk.injEq] at hs
     obtain ⟨rfl, rfl⟩ := hs
     simp only [Bool.and_eq_true, beq_iff_eq] at hb
     rw [Nat.eq_of_beq_eq_true hb.1] at hu
     exact R_slice00 t x y z ho hu hb.2.2 (m := l.length) (by rw [ha]; exact alen_map (l := l) (f := C)) hy hz (Nat.le_of_ble_eq_true hb.2.1)
    ·cases hs
   ·cases hs
  ·cases hs
 ·rename_i α C l m id e n bytes hsz
  split at hs
  ·rename_i c ho
   split at hs
   ·rename_i x y t t' hc hx ht
    split at hs
    ·rename_i e' n' b' hap
     split at hs
     ·rename_i e2 es hb hrow
      split at hs
      ·rename_i he2
       simp only [Option.some.injEq, Prod.mk.injEq] at hs
       obtain ⟨rfl, rfl⟩ := hs
       simp only [Bool.and_eq_true] at hb
       obtain ⟨h1, h2, h3⟩ := tuple3 ha
       obtain ⟨callee, args, ts⟩ := c
       simp only at hc hx ht
       rw [hc, arr2 hx, arr2 ht, ← Nat.eq_of_beq_eq_true hb.1] at ho
       rw [Nat.eq_of_beq_eq_true hb.2.1, Nat.eq_of_beq_eq_true hb.2.2.1, Nat.eq_of_beq_eq_true hb.2.2.2.1] at hap
       have hr := rowOf_spec hrow
       rw [Nat.eq_of_beq_eq_true he2] at hr
       simp only [AV.rv.injEq, RV.sl.injEq, true_and] at h2
       rw [h2] at hr
       exact R_appendM C l m id e n bytes ho hap h1 hr (Nat.le_of_ble_eq_true hb.2.2.2.2.1) (Nat.le_of_ble_eq_true hb.2.2.2.2.2) h3 hsz
      ·cases hs
     ·cases hs
    ·cases hs
   ·cases hs
  ·cases hs
 ·rename_i mx a b
  split at hs
  ·rename_i c ho
   split at hs
   ·rename_i x y hc hx
    simp only [Option.some.injEq, Prod.mk.injEq] at hs
    obtain ⟨rfl, rfl⟩ := hs
    obtain ⟨h1, h2⟩ := tuple2 ha
    obtain ⟨callee, args, ts⟩ := c
    simp only at hc hx
    rw [hc, arr2 hx] at ho
    exact (R_min2 x y ts ho h1 h2).step
   ·rename_i x y hc hx
    simp only [Option.some.injEq, Prod.mk.injEq] at hs
    obtain ⟨rfl, rfl⟩ := hs
    obtain ⟨h1, h2⟩ := tuple2 ha
    obtain ⟨callee, args, ts⟩ := c
    simp only at hc hx
    rw [hc, arr2 hx] at ho
    exact (R_max2 x y ts ho h1 h2).step
   ·cases hs
  ·cases hs
 ·rename_i e n es
  split at hs
  ·rename_i t len parts ho
   split at hs
   ·rename_i e' n' es' hb
    split at hs
    ·rename_i hc
     simp only [Option.some.injEq, Prod.mk.injEq] at hs
     obtain ⟨rfl, rfl⟩ := hs
     simp only [Bool.and_eq_true] at hc
     rw [Nat.eq_of_beq_eq_true hc.1, Nat.eq_of_beq_eq_true hc.2] at hb
     simp only [hexp, AV.rv.injEq, RV.sl.injEq, true_and] at ha
     subst ha
     exact OpStep.newRO (R_buildSliceC ho hb)
    ·cases hs
   ·cases hs
  ·cases hs
 ·rename_i e n es
  split at hs
  ·rename_i t len parts ho
   split at hs
   ·rename_i e' n' es' hb
    split at hs
    ·rename_i hc
     simp only [Option.some.injEq, Prod.mk.injEq] at hs
     obtain ⟨rfl, rfl⟩ := hs
     simp only [Bool.and_eq_true] at hc
     rw [Nat.eq_of_beq_eq_true hc.1, Nat.eq_of_beq_eq_true hc.2.1] at hb
     simp only [hexp, AV.rv.injEq, RV.sl.injEq, true_and] at ha
     subst ha
     exact OpStep.newRow (Nat.le_of_ble_eq_true hc.2.2) (R_buildSliceC ho hb)
    ·cases hs
   ·cases hs
  ·cases hs
 ·rename_i b
  split at hs
  ·rename_i t x ho
   split at hs
   ·rename_i hc
    simp only [Option.some.injEq, Prod.mk.injEq] at hs
    obtain ⟨rfl, rfl⟩ := hs
    simp only [Bool.and_eq_true] at hc
    exact R_range_str t x ho (isStr_spec hc.1) ha (Nat.le_of_ble_eq_true hc.2)
   ·cases hs
  ·cases hs
 ·rename_i α C l id n j hj
  split at hs
  ·rename_i t x i ho
   split at hs
   ·rename_i n' bt es hn hrow
    split at hs
    ·rename_i hb
     simp only [Option.some.injEq, Prod.mk.injEq] at hs
     obtain ⟨rfl, rfl⟩ := hs
     obtain ⟨h1, h2, h3⟩ := tuple3 ha
     rw [Nat.eq_of_beq_eq_true hb] at hn
     simp only [AV.rv.injEq, RV.sl.injEq, true_and] at h2
     subst h2
     exact (R_indexAddrRow C l id n j ho hn h3 h1 (rowOf_spec hrow) hj).step
    ·cases hs
   ·cases hs
  ·cases hs
 ·rename_i α C l id n
  split at hs
  ·rename_i c ho
   split at hs
   ·rename_i x t hc hx ht
    split at hs
    ·rename_i bt es hsl hrow
     simp only [Option.some.injEq, Prod.mk.injEq] at hs
     obtain ⟨rfl, rfl⟩ := hs
     obtain ⟨h1, h2⟩ := tuple2 ha
     obtain ⟨callee, args, ts⟩ := c
     simp only at hc hx ht
     rw [hc, arr1 hx, arr1 ht] at ho
     simp only [AV.rv.injEq, RV.sl.injEq, true_and] at h2
     subst h2
     exact (R_lenRow C l id n ho hsl h1 (rowOf_spec hrow)).step
    ·cases hs
   ·cases hs
  ·cases hs
 ·rename_i α C l id n j off k e he
  split at hs
  ·rename_i t x ho
   split at hs
   ·rename_i k' bt es hk hrow
    split at hs
    ·rename_i hb
     simp only [Option.some.injEq, Prod.mk.injEq] at hs
     obtain ⟨rfl, rfl⟩ := hs
     simp only [Bool.and_eq_true] at hb
     obtain ⟨h1, h2⟩ := tuple2 ha
     rw [Nat.eq_of_beq_eq_true hb.1] at hk
     simp only [AV.rv.injEq, RV.sl.injEq, true_and] at h2
     subst h2
     exact (R_loadRow C l id n j off k ho hk h1 (rowOf_spec hrow) he hb.2.2 hb.2.1 rfl).step
    ·cases hs
   ·cases hs
  ·cases hs
 ·rename_i α C l id n j off e he
  split at hs
  ·rename_i t x ho
   split at hs
   ·rename_i bt es v vs hsc hrow hd
    simp only [Option.some.injEq, Prod.mk.injEq] at hs
    obtain ⟨rfl, rfl⟩ := hs
    obtain ⟨h1, h2⟩ := tuple2 ha
    simp only [AV.rv.injEq, RV.sl.injEq, true_and] at h2
    subst h2
    exact (R_loadRow1 C l id n j off ho hsc h1 (rowOf_spec hrow) he hd).step
   ·cases hs
  ·cases hs
 ·rename_i α C l n lo hi hle1 hle2
  split at hs
  ·rename_i t x olo ohi ho
   split at hs
   ·rename_i n' hn hb
    split at hs
    ·rename_i hbn
     simp only [Option.some.injEq, Prod.mk.injEq] at hs
     obtain ⟨rfl, rfl⟩ := hs
     simp only [Bool.and_eq_true, beq_iff_eq] at hb
     obtain ⟨h1, h2, h3⟩ := tuple3 ha
     rw [Nat.eq_of_beq_eq_true hbn] at hn
     refine (R_slice t x olo ohi ho hn h1 (l := lo.getD 0) (h := hi.getD l.length) ?_ ?_ hle1 (by simpa using hle2) (by rw [List.map_drop, List.map_take])).step
     ·cases olo with
      | none => cases lo with
       | none => exact .inl ⟨rfl, rfl⟩
       | some k => simp at hb
      | some y => cases lo with
       | none => simp at hb
       | some k => exact .inr ⟨y, _, rfl, h2⟩
     ·cases ohi with
      | none => cases hi with
       | none => exact .inl ⟨rfl, by simp⟩
       | some k => simp at hb
      | some y => cases hi with
       | none => simp at hb
       | some k => exact .inr ⟨y, _, rfl, h3⟩
    ·cases hs
   ·cases hs
  ·cases hs
 ·rename_i b lo hi hle1 hle2
  split at hs
  ·rename_i t x olo ohi ho
   split at hs
   ·rename_i hb
    simp only [Option.some.injEq, Prod.mk.injEq] at hs
    obtain ⟨rfl, rfl⟩ := hs
    simp only [Bool.and_eq_true, beq_iff_eq] at hb
    obtain ⟨h1, h2, h3⟩ := tuple3 ha
    refine (R_slice_str t x olo ohi ho (isStr_spec hb.1) h1 (l := lo.getD 0) (h := hi.getD b.size) ?_ ?_ hle1 hle2).step
    ·cases olo with
     | none => cases lo with
      | none => exact .inl ⟨rfl, rfl⟩
      | some k => simp at hb
     | some y => cases lo with
      | none => simp at hb
      | some k => exact .inr ⟨y, _, rfl, h2⟩
    ·cases ohi with
     | none => cases hi with
      | none => exact .inl ⟨rfl, rfl⟩
      | some k => simp at hb
     | some y => cases hi with
      | none => simp at hb
      | some k => exact .inr ⟨y, _, rfl, h3⟩
   ·cases hs
  ·cases hs
 ·rename_i j
  split at hs
  ·rename_i t x i ho
   split at hs
   ·rename_i len e cs hu hx
    split at hs
    ·rename_i v hv hb
     simp only [Option.some.injEq, Prod.mk.injEq] at hs
     obtain ⟨rfl, rfl⟩ := hs
     simp only [Bool.and_eq_true, beq_iff_eq, Nat.blt_eq] at hb
     exact (R_indexArr j ho hu hb.1 hb.2.2 ha hx hv hb.2.1).step
    ·cases hs
   ·cases hs
  ·cases hs
 ·rename_i α C d m c e n bytes hsz
  split at hs
  ·rename_i t x y ho
   split at hs
   ·rename_i e' n' b' zs hap hz
    split at hs
    ·rename_i hb
     simp only [Option.some.injEq, Prod.mk.injEq] at hs
     obtain ⟨rfl, rfl⟩ := hs
     simp only [Bool.and_eq_true] at hb
     rw [Nat.eq_of_beq_eq_true hb.1, Nat.eq_of_beq_eq_true hb.2.1, Nat.eq_of_beq_eq_true hb.2.2.1] at hap
     obtain ⟨h1, h2, h3⟩ := tuple3 ha
     simp only [AV.rv.injEq, RV.ptr.injEq] at h3
     exact OpStep.newRow (Nat.le_of_ble_eq_true hb.2.2.2.2) (R_mk C d m c ho hap hz hb.2.2.2.1 h3 h1 h2 hsz)
    ·cases hs
   ·cases hs
  ·cases hs
 ·rename_i α C l id n j off e he
  split at hs
  ·rename_i t x f ho
   split at hs
   ·rename_i k bt es hk hrow
    simp only [Option.some.injEq, Prod.mk.injEq] at hs
    obtain ⟨rfl, rfl⟩ := hs
    obtain ⟨h1, h2⟩ := tuple2 ha
    simp only [AV.rv.injEq, RV.sl.injEq, true_and] at h2
    subst h2
    exact (R_fieldAddr t x f ho hk (cs := ((C e).drop off).map AV.rv) (by rw [h1]; simp [acells, rowOf_spec hrow, he]) (by rw [h1]; rfl)).step
   ·cases hs
  ·cases hs
 ·rename_i α C l id n j off e e' he
  split at hs
  ·rename_i t p x ho
   split at hs
   ·rename_i bt es vs hrow hvs
    split at hs
    ·rename_i hb
     simp only [Option.some.injEq, Prod.mk.injEq] at hs
     obtain ⟨rfl, rfl⟩ := hs
     simp only [Bool.and_eq_true, beq_iff_eq] at hb
     obtain ⟨h1, h2, h3⟩ := tuple3 ha
     simp only [AV.rv.injEq, RV.sl.injEq, true_and] at h2
     subst h2
     simp only [AV.rv.injEq, RV.ptr.injEq] at h3
     exact R_storeRow C l id n j off ho h1 (rowOf_spec hrow) he e' hvs hb.1 hb.2 h3
    ·cases hs
   ·cases hs
  ·cases hs
 ·split at hs
  ·rename_i f p q ho
   simp only [Option.some.injEq, Prod.mk.injEq] at hs
   obtain ⟨rfl, rfl⟩ := hs
   exact (R_makeFunc ho).step
  ·cases hs
 ·rename_i f p q args r hc
  split at hs
  ·rename_i c ho
   split at hs
   ·rename_i x hcal
    split at hs
    ·rename_i hb
     simp only [Option.some.injEq, Prod.mk.injEq] at hs
     obtain ⟨rfl, rfl⟩ := hs
     simp only [Bool.and_eq_true] at hb
     obtain ⟨callee, xs, ts⟩ := c
     simp only at hcal hb ha
     rw [hcal] at ho
     simp only [hexp, AV.tuple.injEq, List.cons.injEq] at ha
     obtain ⟨h1, h2⟩ := ha
     exact OpStep.callB ho h1 hb.1 h2 (h2 ▸ hb.2.1) hc hb.2.2
    ·cases hs
   ·cases hs
  ·cases hs
 ·cases hs
end
end Go.Av
namespace Go.Av
open Go

section
variable {P : Program} {G : Glob} {Q : Exit → St → Prop} {s s' : St}

def xops (P : Program) (G : Glob) (ops : Array Oper) : List (Hint P G) → List Oper → St → Option (List AV × St)
 | [], _, s => some ([], s)
 | h :: hs, l, s => match h with
  | .run n => match aops P G ops n l s with
   | some s' => xops P G ops hs (l.drop n) s'
   | none => none
  | .nils k m => xops P G ops hs l (s.nils k m)
  | .frz id => xops P G ops hs l (frz s id)
  | .slot k _ v _ => match s.slots[k]? with
   | some a => match xops P G ops hs l { s with slots := s.slots.set k v } with
    | some (as, s2) => some (a :: as, s2)
    | none => none
   | none => none
  | .nrow k e n => match s.slots[k]?, Nat.ble s.base s.next with
   | some (.rv (.v (.slice none 0 0))), true => xops P G ops hs l { s with slots := s.slots.set k (.sl s.next), heap := (s.next, .row false e n []) :: s.heap, next := s.next + 1 }
   | _, _ => none
  | h' => match l with
   | o :: r => match gwant ops s o with
    | some true => match hstep P G o s h' with
     | some (a, s') => match xops P G ops hs r s' with
      | some (as, s2) => some (a :: as, s2)
      | none => none
     | none => none
    | _ => none
   | [] => none

def hexps : List (Hint P G) → List AV
 | [] => []
 | h :: hs => match h with
  | .run _ => hexps hs
  | .nils _ _ => hexps hs
  | .frz _ => hexps hs
  | .nrow _ _ _ => hexps hs
  | h' => hexp h' :: hexps hs

def hcount : List (Hint P G) → Nat
 | [] => 0
 | h :: hs => match h with
  | .run n => n + hcount hs
  | .nils _ _ => hcount hs
  | .frz _ => hcount hs
  | .nrow _ _ _ => hcount hs
  | .slot _ _ _ _ => hcount hs
  | _ => 1 + hcount hs

def hkind : Hint P G → Nat
 | .run _ => 0
 | .nils _ _ => 1
 | .frz _ => 2
 | .slot _ _ _ _ => 4
 | .nrow _ _ _ => 5
 | _ => 3

theorem xops_one {ops : Array Oper} {h : Hint P G} {hs : List (Hint P G)} {l : List Oper} {s : St} (hk : hkind h = 3) : xops P G ops (h :: hs) l s = (match l with
      | o :: r => match gwant ops s o with
        | some true => match hstep P G o s h with
          | some (a, s') => match xops P G ops hs r s' with
            | some (as, s2) => some (a :: as, s2)
            | none => none
          | none => none
        | _ => none
      | [] => none) ∧ hexps (h :: hs) = hexp h :: hexps hs ∧ hcount (h :: hs) = 1 + hcount hs := by
  cases h <;> first | exact ⟨rfl, rfl, rfl⟩ | simp [hkind] at hk

theorem AOps.hints {ops : Array Oper} : ∀ (hs : List (Hint P G)) {l : List Oper} {s s2 : St} {as : List AV}, xops P G ops hs l s = some (as, s2) → as = hexps hs → AOps P G ops Q (l.drop (hcount hs)) s2 → AOps P G ops Q l s
 | [], l, s, s2, as, h, _, k => by
  simp only [xops, Option.some.injEq, Prod.mk.injEq] at h
  obtain ⟨_, rfl⟩ := h
  simpa [hcount] using k
 | h :: hs, l, s, s2, as, hx, ha, k => by
  have hk : hkind h = 0 ∨ hkind h = 1 ∨ hkind h = 2 ∨ hkind h = 4 ∨ hkind h = 5 ∨ hkind h = 3 := by cases h <;> simp [hkind]
  rcases hk with hk | hk | hk | hk | hk | hk
  ·cases h with
   | run n =>
    simp only [xops] at hx
    simp only [hcount] at k
    split at hx
    ·rename_i s1 h1
     exact AOps.run n h1 (AOps.hints hs hx ha (by rw [List.drop_drop]; exact k))
    ·cases hx
   | _ => simp [hkind] at hk
  ·cases h with
   | nils i m => exact AOps.le (Le.nils i m rfl) (AOps.hints hs hx ha k)
   | _ => simp [hkind] at hk
  ·cases h with
   | frz i => exact AOps.le (Le.frz s i) (AOps.hints hs hx ha k)
   | _ => simp [hkind] at hk
  ·cases h with
   | slot i u v huv =>
    simp only [xops] at hx
    simp only [hcount] at k
    split at hx
    ·rename_i a h1
     split at hx
     ·rename_i as' s3 h2
      simp only [Option.some.injEq, Prod.mk.injEq] at hx
      obtain ⟨rfl, rfl⟩ := hx
      simp only [hexps, hexp, List.cons.injEq] at ha
      have hset : ({ s with slots := s.slots.set i v } : St) = s := by
       rw [← huv, ← ha.1]
       have : s.slots.set i a = s.slots := by
        apply List.ext_getElem?
        intro j
        rw [List.getElem?_set]
        split
        ·rename_i e
         subst e
         rw [h1]
         have := (List.getElem?_eq_some_iff.1 h1).1
         simp [this]
        ·rfl
       rw [this]
      rw [hset] at h2
      exact AOps.hints hs h2 ha.2 k
     ·cases hx
    ·cases hx
   | _ => simp [hkind] at hk
  ·cases h with
   | nrow i e n =>
    simp only [xops] at hx
    simp only [hcount] at k
    split at hx
    ·rename_i h1 h2
     exact AOps.le (Le.nilRow i e n h1 (Nat.le_of_ble_eq_true h2) rfl) (AOps.hints hs hx ha k)
    ·cases hx
   | _ => simp [hkind] at hk
  ·obtain ⟨e1, e2, e3⟩ := xops_one (ops := ops) (hs := hs) (l := l) (s := s) hk
   rw [e1] at hx
   rw [e2] at ha
   rw [e3] at k
   split at hx
   ·rename_i o r
    split at hx
    ·rename_i hg
     split at hx
     ·rename_i a s1 h1
      split at hx
      ·rename_i as' s3 h2
       simp only [Option.some.injEq, Prod.mk.injEq] at hx
       obtain ⟨rfl, rfl⟩ := hx
       simp only [List.cons.injEq] at ha
       exact AOps.step hg (hstep_sound h1 ha.1) (AOps.hints hs h2 ha.2 (by rw [Nat.add_comm] at k; exact k))
      ·cases hx
     ·cases hx
    ·cases hx
   ·cases hx

def Z (n : Nat) (l : List (Nat × AV)) (h : Heap) (m : Nat) : St := ⟨mkSl 0 (n % 2000) l, h, m, n / 2000⟩
def keysH : Heap → List Nat
 | [] => []
 | (k, _) :: r => k :: keysH r
structure Vw where
 slots : List (Nat × AV)
 heap : Heap
 len : Nat
 base : Nat
def pairs (sl : List AV) : List (Nat × AV) → List (Nat × AV)
 | [] => []
 | (k, _) :: r => (k, sl.getD k .top) :: pairs sl r
def vw (l : List (Nat × AV)) (h : Heap) (s : St) : Vw := ⟨pairs s.slots l, pickH s.heap (keysH h), s.slots.length, s.base⟩
abbrev vz (l : List (Nat × AV)) (h : Heap) (n : Nat) : Vw := ⟨l, h, n % 2000, n / 2000⟩
def vwx (l : List (Nat × AV)) (h : Heap) (x : List AV × St) : List AV × Vw × Nat := (x.1, vw l h x.2, x.2.next)

theorem mkSl_at : ∀ {n j : Nat} {l : List (Nat × AV)} {i : Nat} {x : AV}, (mkSl j n l)[i]? = some x → x = .top ∨ (j + i, x) ∈ l
 | 0, _, _, i, x, h => by simp [mkSl] at h
 | n + 1, j, [], i, x, h => by
  cases i with
  | zero => simp [mkSl] at h; exact .inl h.symm
  | succ i =>
   simp only [mkSl, List.getElem?_cons_succ] at h
   rcases mkSl_at h with h | h
   ·exact .inl h
   ·cases h
 | n + 1, j, (k, v) :: r, i, x, h => by
  simp only [mkSl] at h
  split at h
  ·rename_i e
   subst e
   cases i with
   | zero => simp at h; subst h; exact .inr (by simp)
   | succ i =>
    simp only [List.getElem?_cons_succ] at h
    rcases mkSl_at h with h | h
    ·exact .inl h
    ·exact .inr (List.mem_cons_of_mem _ (by rw [← Nat.add_assoc, Nat.add_right_comm]; exact h))
  ·cases i with
   | zero => simp at h; exact .inl h.symm
   | succ i =>
    simp only [List.getElem?_cons_succ] at h
    rcases mkSl_at h with h | h
    ·exact .inl h
    ·exact .inr (by rw [← Nat.add_assoc, Nat.add_right_comm]; exact h)
theorem mkSl_length : ∀ (n j : Nat) (l : List (Nat × AV)), (mkSl j n l).length = n
 | 0, _, _ => by simp [mkSl]
 | n + 1, j, [] => by simp [mkSl, mkSl_length n]
 | n + 1, j, (k, v) :: r => by
  simp only [mkSl]
  split <;> simp [mkSl_length n]
theorem pairs_mem {sl : List AV} : ∀ {l : List (Nat × AV)}, pairs sl l = l → ∀ {k : Nat} {v : AV}, (k, v) ∈ l → sl.getD k .top = v
 | [], _, k, v, h => by cases h
 | (j, u) :: r, he, k, v, h => by
  simp only [pairs, List.cons.injEq, Prod.mk.injEq, true_and] at he
  rcases List.mem_cons.1 h with h | h
  ·cases h; exact he.1
  ·exact pairs_mem he.2 h

theorem le_vw {n : Nat} {l : List (Nat × AV)} {h : Heap} {m : Nat} (he : vw l h s = vz l h n) (hm : s.next ≤ m) : Le s (Z n l h m) := by
 simp only [vw, Vw.mk.injEq] at he
 obtain ⟨h1, h2, h3, h4⟩ := he
 intro E G a w ⟨β, ro, hr⟩
 have hsub : ∀ id o, hget h id = some o → hget s.heap id = some o := by rw [← h2]; exact pickH_sub s.heap _
 have grow : ∀ x c, ARel w ro s.heap β s.next x c → ARel w ro h β m x c := fun x c hx => (hx.sub hsub).keep (fun _ _ => rfl) (fun _ h => h) hm (fun id t cs hg => ⟨rfl, t, cs, hg⟩) (fun id z t n es hg => ⟨rfl, z, t, es, hg⟩) (fun id Φ hg => ⟨rfl, Φ, hg⟩)
 refine ⟨β, ro, hr.defers, by simp [Z, mkSl_length, ← h3, hr.size], fun i x hx => ?_, ?_, hr.glob, ?_, by show E.n ≤ n / 2000; rw [← h4]; exact hr.base⟩
 ·rcases mkSl_at hx with rfl | hx
  ·exact .top _
  ·rw [Nat.zero_add] at hx
   have hv := pairs_mem h1 hx
   cases hi : s.slots[i]? with
   | none =>
    simp only [List.getD, hi, Option.getD_none] at hv
    subst hv
    exact .top _
   | some y =>
    simp only [List.getD, hi, Option.getD_some] at hv
    subst hv
    exact grow _ _ (hr.slot i _ hi)
 ·have hh := hr.heap.sub hsub
  exact ⟨fun id o hg => (hh.objs id o hg).keep (fun _ _ => rfl) (fun _ h => h) hm rfl (fun _ _ _ => rfl) (fun id t cs hg => ⟨rfl, t, cs, hg⟩) (fun id z t n es hg => ⟨rfl, z, t, es, hg⟩) (fun id Φ hg => ⟨rfl, Φ, hg⟩), hh.inj, hh.disj, hh.lt⟩
 ·have t := hr.trans.sub hsub
  exact ⟨t.os, t.tape, t.output, t.size, t.frame, t.roSub, t.roKeep, t.ownSub, t.old, fun id o hg => Nat.lt_of_lt_of_le (t.new id o hg) hm, Nat.le_trans t.le hm⟩

theorem AOps.hz {ops : Array Oper} {L : List Oper} (hs : List (Hint P G)) (n : Nat) (l : List (Nat × AV)) (h : Heap) (m : Nat) (k : AOps P G ops Q (L.drop (hcount hs)) (Z n l h m))
    (hx : (xops P G ops hs L s).map (vwx l h) = some (hexps hs, vz l h n, m) := by as_aux_lemma => kernel_rfl) : AOps P G ops Q L s := by
  cases h1 : xops P G ops hs L s with
  | none => rw [h1] at hx; cases hx
  | some x =>
    obtain ⟨as, s1⟩ := x
    rw [h1] at hx
    simp only [Option.map_some, vwx, Option.some.injEq, Prod.mk.injEq] at hx
    exact AOps.hints hs h1 hx.1 (AOps.le (le_vw hx.2.1 (Nat.le_of_eq hx.2.2)) k)
theorem AOps.hg {ops : Array Oper} {L : List Oper} (hs : List (Hint P G)) (b : Bool) (n : Nat) (l : Bool → List (Nat × AV)) (h : Heap) (m : Nat) (ht : b = true → AOps P G ops Q (L.drop (hcount hs)) (Z n (l true) h m)) (hf : b = false → AOps P G ops Q (L.drop (hcount hs)) (Z n (l false) h m))
    (hx : (xops P G ops hs L s).map (vwx (l b) h) = some (hexps hs, vz (l b) h n, m) := by as_aux_lemma => kernel_rfl) : AOps P G ops Q L s := by
  refine AOps.hz hs n (l b) h m ?_ hx
  cases b
  · exact hf rfl
  · exact ht rfl
theorem AOps.he {ops : Array Oper} {L : List Oper} (hs : List (Hint P G)) (n : Nat) (l : List (Nat × AV)) (h : Heap) (m : Nat) (k : Q .normal (Z n l h m))
    (hx : (xops P G ops hs L s).map (vwx l h) = some (hexps hs, vz l h n, m) := by as_aux_lemma => kernel_rfl) (hl : Nat.ble L.length (hcount hs) = true := by as_aux_lemma => kernel_rfl) : AOps P G ops Q L s :=
  AOps.hz hs n l h m (by rw [List.drop_of_length_le (Nat.le_of_ble_eq_true hl)]; exact AOps.nil k) hx
theorem AWp.hz {id : Nat} {L : List Oper} {c : Code} (hs : List (Hint P G)) (n : Nat) (l : List (Nat × AV)) (h : Heap) (m : Nat) (k : AWp P G c Q (Z n l h m))
    (hx : (xops P G L.toArray hs L s).map (vwx l h) = some (hexps hs, vz l h n, m) := by as_aux_lemma => kernel_rfl) (hl : Nat.ble L.length (hcount hs) = true := by as_aux_lemma => kernel_rfl) : AWp P G (.seq (.region id L.toArray false) c) Q s :=
  .seq (.region (AOps.he hs n l h m k hx hl))
theorem AWp.he {id : Nat} {L : List Oper} (hs : List (Hint P G)) (n : Nat) (l : List (Nat × AV)) (h : Heap) (m : Nat) (k : Q .normal (Z n l h m))
    (hx : (xops P G L.toArray hs L s).map (vwx l h) = some (hexps hs, vz l h n, m) := by as_aux_lemma => kernel_rfl) (hl : Nat.ble L.length (hcount hs) = true := by as_aux_lemma => kernel_rfl) : AWp P G (.region id L.toArray false) Q s :=
  .region (AOps.he hs n l h m k hx hl)
theorem AWp.rg {id : Nat} {L : List Oper} {c : Code} (k : AOps P G L.toArray (SeqQ P G c Q) L s) : AWp P G (.seq (.region id L.toArray false) c) Q s := .seq (.region k)

theorem AWp.cnd {x : Operand} {c d : Code} (b : Bool) (ht : b = true → AWp P G c Q s) (hf : b = false → AWp P G d Q s) (hx : aval G s x = .rv (.v (.bool b)) := by as_aux_lemma => kernel_rfl) : AWp P G (.cond x c d) Q s := AWp.cond hx ht hf
theorem AWp.cndT {x : Operand} {c d : Code} (ht : AWp P G c Q s) (hx : aval G s x = .rv (.v (.bool true)) := by as_aux_lemma => kernel_rfl) : AWp P G (.cond x c d) Q s := AWp.cond_t hx ht
theorem AWp.cndF {x : Operand} {c d : Code} (hf : AWp P G d Q s) (hx : aval G s x = .rv (.v (.bool false)) := by as_aux_lemma => kernel_rfl) : AWp P G (.cond x c d) Q s := AWp.cond_f hx hf
theorem leZ {n : Nat} {l : List (Nat × AV)} {h : Heap} {m : Nat} (he : vw l h s = vz l h n := by as_aux_lemma => kernel_rfl) (hm : Nat.ble s.next m = true := by as_aux_lemma => kernel_rfl) : Le s (Z n l h m) := le_vw he (Nat.le_of_ble_eq_true hm)
def valsL : List (Nat × AV) → List AV
 | [] => []
 | (_, v) :: r => v :: valsL r
theorem valsL_mem : ∀ {l : List (Nat × AV)} {k : Nat} {v : AV}, (k, v) ∈ l → v ∈ valsL l
 | (j, u) :: r, k, v, h => by
  rcases List.mem_cons.1 h with h | h
  ·cases h; simp [valsL]
  ·simp [valsL, valsL_mem h]
theorem belowL_mem {n : Nat} {cs : List AV} (h : belowL n cs = true) {x : AV} (hx : x ∈ cs) : belowA n x = true := by
 obtain ⟨j, hj, rfl⟩ := List.mem_iff_getElem.1 hx
 exact belowL_at h (List.getElem?_eq_getElem hj)
theorem leG {n : Nat} {l : List (Nat × AV)} {h : Heap} {m : Nat} (he : vw l h s = vz l h n := by as_aux_lemma => kernel_rfl) (h1 : belowL m (valsL l) = true := by as_aux_lemma => kernel_rfl) (h2 : belowH m h = true := by as_aux_lemma => kernel_rfl) (h3 : Nat.ble (n / 2000) m = true := by as_aux_lemma => kernel_rfl) : Le s (Z n l h m) := by
 by_cases hm : s.next ≤ m
 ·exact le_vw he hm
 ·refine (le_vw he (Nat.le_refl _)).trans ?_
  intro E G a w ⟨β, ro, hr⟩
  refine ⟨β, ro, hr.defers, hr.size, fun i x hx => ?_, ⟨fun id o hg => ?_, hr.heap.inj, hr.heap.disj, hr.heap.lt⟩, hr.glob, ?_, hr.base⟩
  ·have hx' : (mkSl 0 (n % 2000) l)[i]? = some x := hx
   rcases mkSl_at hx' with rfl | hx2
   ·exact .top _
   ·exact (hr.slot i x hx).lower (belowL_mem h1 (valsL_mem hx2))
  ·have ho := hr.heap.objs id o hg
   obtain ⟨_, hbx⟩ := belowH_at h2 hg
   cases ho with
   | box t cs b arr e1 e2 e3 e4 => exact .box t cs b arr e1 e2 e3 fun j x hj => (e4 j x hj).lower (belowL_at (hbx t cs rfl) hj)
   | row t n es xs e1 e2 e3 => exact .row t n es xs e1 e2 e3
   | fro t n es e1 => exact .fro t n es e1
   | oth Φ b o e1 e2 e3 => exact .oth Φ b o e1 e2 e3
  ·have t := hr.trans
   exact ⟨t.os, t.tape, t.output, t.size, t.frame, t.roSub, t.roKeep, t.ownSub, t.old, fun id o hg => (belowH_at h2 hg).1, Nat.le_trans hr.base (Nat.le_of_ble_eq_true h3)⟩

def lensOk : List (Hint P G) → Prop
 | [] => True
 | h :: hs => match h with
  | .len _ l _ => l.length ≤ 9223372036854775807 ∧ lensOk hs
  | .lenR _ l _ _ => l.length ≤ 9223372036854775807 ∧ lensOk hs
  | _ => lensOk hs
theorem AOps.lenRow {ops : Array Oper} {α : Type} {C : α → List RV} {l : List α} {r : List Oper} {id n : Nat} {t : TypeId} (hid : hget s.heap id = some (.row false t n (l.map C))) (k : l.length ≤ 9223372036854775807 → AOps P G ops Q r s) : AOps P G ops Q r s := by
 intro E a w hr
 refine k ?_ E a w hr
 obtain ⟨β, ro, h⟩ := hr
 have hO := h.heap.objs id _ hid
 cases hO with
 | row _ _ _ xs hrow _ _ =>
  rw [List.length_map] at hrow
  rcases hrow.2 with ⟨_, h0⟩ | ⟨g, cap, cur, _, _, _, h1, h2, _⟩
  ·omega
  ·simp only [maxLen] at h2
   omega
theorem AOps.hintsL {ops : Array Oper} : ∀ (hs : List (Hint P G)) {l : List Oper} {s s2 : St} {as : List AV}, xops P G ops hs l s = some (as, s2) → as = hexps hs → (lensOk hs → AOps P G ops Q (l.drop (hcount hs)) s2) → AOps P G ops Q l s
 | [], l, s, s2, as, h, _, k => by
  simp only [xops, Option.some.injEq, Prod.mk.injEq] at h
  obtain ⟨_, rfl⟩ := h
  simpa [hcount] using k trivial
 | h :: hs, l, s, s2, as, hx, ha, k => by
  have hk : hkind h = 0 ∨ hkind h = 1 ∨ hkind h = 2 ∨ hkind h = 4 ∨ hkind h = 5 ∨ hkind h = 3 := by cases h <;> simp [hkind]
  rcases hk with hk | hk | hk | hk | hk | hk
  ·cases h with
   | run n =>
    simp only [xops] at hx
    simp only [hcount] at k
    split at hx
    ·rename_i s1 h1
     exact AOps.run n h1 (AOps.hintsL hs hx ha (by rw [List.drop_drop]; exact k))
    ·cases hx
   | _ => simp [hkind] at hk
  ·cases h with
   | nils i m => exact AOps.le (Le.nils i m rfl) (AOps.hintsL hs hx ha k)
   | _ => simp [hkind] at hk
  ·cases h with
   | frz i => exact AOps.le (Le.frz s i) (AOps.hintsL hs hx ha k)
   | _ => simp [hkind] at hk
  ·cases h with
   | slot i u v huv =>
    simp only [xops] at hx
    simp only [hcount] at k
    split at hx
    ·rename_i a h1
     split at hx
     ·rename_i as' s3 h2
      simp only [Option.some.injEq, Prod.mk.injEq] at hx
      obtain ⟨rfl, rfl⟩ := hx
      simp only [hexps, hexp, List.cons.injEq] at ha
      have hset : ({ s with slots := s.slots.set i v } : St) = s := by
       rw [← huv, ← ha.1]
       have : s.slots.set i a = s.slots := by
        apply List.ext_getElem?
        intro j
        rw [List.getElem?_set]
        split
        ·rename_i e
         subst e
         rw [h1]
         have := (List.getElem?_eq_some_iff.1 h1).1
         simp [this]
        ·rfl
       rw [this]
      rw [hset] at h2
      exact AOps.hintsL hs h2 ha.2 k
     ·cases hx
    ·cases hx
   | _ => simp [hkind] at hk
  ·cases h with
   | nrow i e n =>
    simp only [xops] at hx
    simp only [hcount] at k
    split at hx
    ·rename_i h1 h2
     exact AOps.le (Le.nilRow i e n h1 (Nat.le_of_ble_eq_true h2) rfl) (AOps.hintsL hs hx ha k)
    ·cases hx
   | _ => simp [hkind] at hk
  ·obtain ⟨e1, e2, e3⟩ := xops_one (ops := ops) (hs := hs) (l := l) (s := s) hk
   rw [e1] at hx
   rw [e2] at ha
   rw [e3] at k
   split at hx
   ·rename_i o r
    split at hx
    ·rename_i hg
     split at hx
     ·rename_i a s1 h1
      split at hx
      ·rename_i as' s3 h2
       simp only [Option.some.injEq, Prod.mk.injEq] at hx
       obtain ⟨rfl, rfl⟩ := hx
       simp only [List.cons.injEq] at ha
       cases h with
       | len C l' n =>
        have ho : ∃ x, aval G s x = .rv (.sl n (l'.map C)) := by
         have h3 := ha.1
         unfold hstep at h1
         simp only at h1
         split at h1
         ·split at h1
          ·split at h1
           ·simp only [Option.some.injEq, Prod.mk.injEq] at h1
            rw [← h1.1] at h3
            exact ⟨_, h3⟩
           ·cases h1
          ·cases h1
         ·cases h1
        obtain ⟨x, hx⟩ := ho
        exact AOps.lenLeM hx fun hle =>
         AOps.step hg (hstep_sound h1 ha.1) (AOps.hintsL hs h2 ha.2 fun hl => by rw [Nat.add_comm] at k; exact k ⟨hle, hl⟩)
       | lenR C l' id n =>
        have ho : ∃ t, hget s.heap id = some (.row false t n (l'.map C)) := by
         have h3 := ha.1
         unfold hstep at h1
         simp only at h1
         split at h1
         ·split at h1
          ·split at h1
           ·rename_i hrow
            simp only [Option.some.injEq, Prod.mk.injEq] at h1
            rw [← h1.1] at h3
            obtain ⟨_, h4⟩ := tuple2 h3
            simp only [AV.rv.injEq, RV.sl.injEq, true_and] at h4
            exact ⟨_, h4 ▸ rowOf_spec hrow⟩
           ·cases h1
          ·cases h1
         ·cases h1
        obtain ⟨t, ht⟩ := ho
        exact AOps.lenRow ht fun hle =>
         AOps.step hg (hstep_sound h1 ha.1) (AOps.hintsL hs h2 ha.2 fun hl => by rw [Nat.add_comm] at k; exact k ⟨hle, hl⟩)
       | _ => exact AOps.step hg (hstep_sound h1 ha.1) (AOps.hintsL hs h2 ha.2 fun hl => by rw [Nat.add_comm] at k; exact k hl)
      ·cases hx
     ·cases hx
    ·cases hx
   ·cases hx
theorem AOps.hzl {ops : Array Oper} {L : List Oper} (hs : List (Hint P G)) (n : Nat) (l : List (Nat × AV)) (h : Heap) (m : Nat) (k : lensOk hs → AOps P G ops Q (L.drop (hcount hs)) (Z n l h m))
    (hx : (xops P G ops hs L s).map (vwx l h) = some (hexps hs, vz l h n, m) := by as_aux_lemma => kernel_rfl) : AOps P G ops Q L s := by
  cases h1 : xops P G ops hs L s with
  | none => rw [h1] at hx; cases hx
  | some x =>
    obtain ⟨as, s1⟩ := x
    rw [h1] at hx
    simp only [Option.map_some, vwx, Option.some.injEq, Prod.mk.injEq] at hx
    exact AOps.hintsL hs h1 hx.1 fun hl => AOps.le (le_vw hx.2.1 (Nat.le_of_eq hx.2.2)) (k hl)
theorem AOps.hel {ops : Array Oper} {L : List Oper} (hs : List (Hint P G)) (n : Nat) (l : List (Nat × AV)) (h : Heap) (m : Nat) (k : lensOk hs → Q .normal (Z n l h m))
    (hx : (xops P G ops hs L s).map (vwx l h) = some (hexps hs, vz l h n, m) := by as_aux_lemma => kernel_rfl) (hl : Nat.ble L.length (hcount hs) = true := by as_aux_lemma => kernel_rfl) : AOps P G ops Q L s :=
  AOps.hzl hs n l h m (fun h1 => by rw [List.drop_of_length_le (Nat.le_of_ble_eq_true hl)]; exact AOps.nil (k h1)) hx
theorem AWp.hzl {id : Nat} {L : List Oper} {c : Code} (hs : List (Hint P G)) (n : Nat) (l : List (Nat × AV)) (h : Heap) (m : Nat) (k : lensOk hs → AWp P G c Q (Z n l h m))
    (hx : (xops P G L.toArray hs L s).map (vwx l h) = some (hexps hs, vz l h n, m) := by as_aux_lemma => kernel_rfl) (hl : Nat.ble L.length (hcount hs) = true := by as_aux_lemma => kernel_rfl) : AWp P G (.seq (.region id L.toArray false) c) Q s :=
  .seq (.region (AOps.hel hs n l h m k hx hl))
theorem AWp.hel {id : Nat} {L : List Oper} (hs : List (Hint P G)) (n : Nat) (l : List (Nat × AV)) (h : Heap) (m : Nat) (k : lensOk hs → Q .normal (Z n l h m))
    (hx : (xops P G L.toArray hs L s).map (vwx l h) = some (hexps hs, vz l h n, m) := by as_aux_lemma => kernel_rfl) (hl : Nat.ble L.length (hcount hs) = true := by as_aux_lemma => kernel_rfl) : AWp P G (.region id L.toArray false) Q s :=
  .region (AOps.hel hs n l h m k hx hl)
def putAll : List AV → List Oper → List AV → List AV
 | T, o :: l, v :: vs => putAll (putL T o.dst v) l vs
 | T, _, _ => T
theorem AWp.dz {id : Nat} {L : List Oper} {c : Code} (vals : List AV) (n : Nat) (l : List (Nat × AV)) (h : Heap) (m : Nat) (hds : DSteps P G L.toArray s s.slots L vals (putAll s.slots L vals)) (k : AWp P G c Q (Z n l h m))
    (hP : P.follows .mixedOrders = true := by as_aux_lemma => kernel_rfl) (hok : drawOk L.toArray = true := by as_aux_lemma => kernel_rfl) (he : vw l h { s with slots := putAll s.slots L vals } = vz l h n := by as_aux_lemma => kernel_rfl) (hm : Nat.ble s.next m = true := by as_aux_lemma => kernel_rfl) : AWp P G (.seq (.region id L.toArray true) c) Q s :=
  .seq (AWp.drawn vals _ hP hok hds (AWp.le (le_vw he (Nat.le_of_ble_eq_true hm)) k))
theorem DSteps.nl {ops : Array Oper} {s0 : St} {T T' : List AV} (h : T = T' := by as_aux_lemma => kernel_rfl) : DSteps P G ops s0 T [] [] T' := h ▸ DSteps.nil T

theorem leafR {fn : Func} {r R : AV} (hr : r = R) (h : aresult P fn s = some r := by as_aux_lemma => kernel_rfl) : RetQ P fn (fun r τ => r = R ∧ τ = []) .ret s := ⟨.inr rfl, r, [], h, hget_nil, hr, rfl⟩
theorem AOps.cv {ops : Array Oper} {L : List Oper} (n : Nat) (l : List (Nat × AV)) (h : Heap) (m : Nat) (k : AOps P G ops Q L (Z n l h m)) (he : vw l h s = vz l h n := by as_aux_lemma => kernel_rfl) (hm : Nat.ble s.next m = true := by as_aux_lemma => kernel_rfl) : AOps P G ops Q L s := AOps.le (leZ he hm) k
theorem AWp.cv {c : Code} (n : Nat) (l : List (Nat × AV)) (h : Heap) (m : Nat) (k : AWp P G c Q (Z n l h m)) (he : vw l h s = vz l h n := by as_aux_lemma => kernel_rfl) (hm : Nat.ble s.next m = true := by as_aux_lemma => kernel_rfl) : AWp P G c Q s := AWp.le (leZ he hm) k
end

theorem DStep.va {P : Program} {G : Glob} {ops : Array Oper} {s0 : St} {T : List AV} {o : Oper} {v : AV} (hg : gwant ops ⟨maskF (o.looksAt ops) T, s0.heap, s0.next, s0.base⟩ o = some true := by as_aux_lemma => kernel_rfl)
    (hv : vstep P G o ⟨maskF (o.looksAt ops) T, s0.heap, s0.next, s0.base⟩ = some v := by as_aux_lemma => kernel_rfl) : DStep P G ops s0 T o v := DStep.val hg hv
theorem ACalls.body {P : Program} {G : Glob} {f : FuncId} {fn : Func} {c : Code} {args : List AV} {Q : AV → Heap → Prop} (hf : P.funcs[f]? = some fn) (hb : fn.body = some c) (n : Nat) (l : List (Nat × AV))
    (h : AWp P G c (RetQ P fn Q) (Z n l [] 0)) (he : vw l [] ⟨args ++ List.replicate (fn.ntmps - args.length) .top, [], 0, 0⟩ = vz l [] n := by as_aux_lemma => kernel_rfl) : ACalls P G f args [] 0 Q :=
  ACalls.of_body hf hb rfl (AWp.le (leZ he rfl) h)
theorem ACalls.bodyH {P : Program} {G : Glob} {f : FuncId} {fn : Func} {c : Code} {args : List AV} {σ : Heap} {k : Nat} {Q : AV → Heap → Prop} (hf : P.funcs[f]? = some fn) (hb : fn.body = some c) (n : Nat) (l : List (Nat × AV))
    (h : AWp P G c (RetQ P fn Q) (Z n l σ k)) (he : vw l σ ⟨args ++ List.replicate (fn.ntmps - args.length) .top, σ, k, k⟩ = vz l σ n := by as_aux_lemma => kernel_rfl) : ACalls P G f args σ k Q :=
  ACalls.of_body hf hb rfl (AWp.le (le_vw he (Nat.le_refl _)) h)
theorem leafH {P : Program} {s : St} {fn : Func} {e : Exit} {r R : AV} {τ T : Heap} (he : e = .normal ∨ e = .ret) (hr : r = R) (hT : τ = T) (h : aresult P fn s = some r := by as_aux_lemma => kernel_rfl) (hs : pickH s.heap (keysH τ) = τ := by as_aux_lemma => kernel_rfl) : RetQ P fn (fun r τ => r = R ∧ τ = T) e s :=
 ⟨he, r, τ, h, by rw [← hs]; exact pickH_sub s.heap _, hr, hT⟩
end Go.Av
namespace Go.Av
open Go

inductive Step (R A : Type) where
 | ret (r : R)
 | brk (a : A)
 | nxt (a : A)
def loopS {R A : Type} (b : Nat → A → Step R A) : Nat → Nat → A → R ⊕ A
 | _, 0, a => .inr a
 | k, m + 1, a => match b k a with
  | .ret r => .inl r
  | .brk a => .inr a
  | .nxt a => loopS b (k + 1) m a
theorem loopS_next {R A : Type} {b : Nat → A → Step R A} {k n : Nat} {a a' : A} {L : R ⊕ A} (h : L = loopS b k (n - k) a) (hk : k < n) (hb : b k a = .nxt a') : L = loopS b (k + 1) (n - (k + 1)) a' := by
 rw [h, show n - k = (n - (k + 1)) + 1 from by omega]
 simp [loopS, hb]
theorem loopS_ret {R A : Type} {b : Nat → A → Step R A} {k n : Nat} {a : A} {r : R} {L : R ⊕ A} (h : L = loopS b k (n - k) a) (hk : k < n) (hb : b k a = .ret r) : L = .inl r := by
 rw [h, show n - k = (n - k - 1) + 1 from by omega]
 simp [loopS, hb]
theorem loopS_end {R A : Type} {b : Nat → A → Step R A} {k n : Nat} {a : A} {L : R ⊕ A} (h : L = loopS b k (n - k) a) (hk : n ≤ k) : L = .inr a := by
 rw [h, show n - k = 0 from by omega]
 rfl
theorem iterN_inv {A : Type} {b : Nat → A → A} (I : A → Prop) (h : ∀ k a, I a → I (b k a)) : ∀ (m k : Nat) (a : A), I a → I (iterN b k m a)
 | 0, _, _, ha => ha
 | m + 1, k, a, ha => iterN_inv I h m (k + 1) (b k a) (h k a ha)
theorem ACalls.row0 {P : Program} {G : Glob} {f : FuncId} {args : List AV} {t : TypeId} {n : Nat} {es : List (List RV)} {ps : List AV} (hp : pureL ps = true) (tup : Bool)
    (h : ACalls P G f args [] 0 fun r τ => ∃ k, r = (match tup with | true => AV.tuple (.sl k :: ps) | false => .sl k) ∧ τ = [(k, .row false t n es)]) :
    ACalls P G f args [] 0 fun r τ => r = (match tup with | true => AV.tuple (.sl 0 :: ps) | false => .sl 0) ∧ τ = [(0, .row false t n es)] := by
  intro w β ro cargs h1 h2 h3 h4 h5
  refine Calls.mono (h w β ro cargs h1 h2 h3 h4 h5) fun e w' hq => ?_
  obtain ⟨v, r, σ', β', ro', n', he, ⟨k, rfl, rfl⟩, hrel, hh, ht⟩ := hq
  have hid : hget [(k, AObj.row false t n es)] k = some (.row false t n es) := by simp [hget]
  have hid0 : hget [(0, AObj.row false t n es)] 0 = some (.row false t n es) := by simp [hget]
  have only : ∀ id o, hget [(0, AObj.row false t n es)] id = some o → id = 0 ∧ o = .row false t n es := by
    intro id o hg
    simp only [hget] at hg
    split at hg
    · rename_i e; simp at hg; exact ⟨e.symm, hg.symm⟩
    · cases hg
  have hO := hh.objs k _ hid
  have hsl : ∀ c, ARel w' ro' [(k, AObj.row false t n es)] β' n' (.sl k) c → ARel w' ro' [(0, AObj.row false t n es)] (fun _ => β' k) 1 (.sl 0) c := by
    intro c hc
    cases hc with
    | sl _ _ hl hp => exact .sl 0 c (by omega) fun z t' n'' es' hg => hp _ _ _ _ hid
  have live : (AObj.row false t n es).live = true := rfl
  refine ⟨v, _, _, fun _ => β' k, ro', 1, he, ⟨rfl, rfl⟩, ?_, ⟨fun id o hg => ?_, fun id id' o o' b h1 h2 _ _ _ _ => ?_, fun b hb => ?_, hh.lt⟩, ?_⟩
  · cases tup with
    | false => exact hsl v hrel
    | true =>
      simp only at hrel ⊢
      generalize hl : AV.sl k :: ps = l at hrel
      cases hrel with
      | tuple _ c hs hc =>
        subst hl
        refine .tuple _ c (by simpa using hs) fun j x hj => ?_
        cases j with
        | zero =>
          simp at hj
          subst hj
          exact hsl _ (hc 0 _ rfl)
        | succ j =>
          simp only [List.getElem?_cons_succ] at hj
          exact pure_rel (hc (j + 1) x (by simpa using hj)) (pureL_at hp hj)
  · obtain ⟨rfl, rfl⟩ := only id o hg
    cases hO with
    | row _ _ _ xs e1 e2 e3 => exact .row t n es xs e1 e2 e3
  · rw [(only id o h1).1, (only id' o' h2).1]
  · rintro ⟨id, o, hg, hl, hbk⟩
    exact hh.disj b hb ⟨k, _, hid, live, hbk⟩
  · refine ⟨ht.os, ht.tape, ht.output, ht.size, ht.frame, ht.roSub, ht.roKeep, ?_, fun id hi => absurd hi (Nat.not_lt_zero _), fun id o hg => by rw [(only id o hg).1]; exact Nat.one_pos, Nat.zero_le _⟩
    rintro b ⟨id, o, hg, hl, hbk⟩
    exact ht.ownSub b ⟨k, _, hid, live, hbk⟩

section
variable {P : Program} {G : Glob} {s : St} {Q : Exit → St → Prop}
def JoinE {A : Type} (st : A → St) (R : A → Prop) (Q : Exit → St → Prop) : Exit → St → Prop
 | .normal, s => ∃ a, R a ∧ Le s (st a)
 | e, s => Q e s
theorem AWp.joinE {A : Type} {x y : Code} (st : A → St) (R : A → Prop) (hx : AWp P G x (JoinE st R Q) s) (k : ∀ a, R a → AWp P G y Q (st a)) : AWp P G (.seq x y) Q s := fun E a w hr => by
 refine wp_seq (wp_mono (hx E a w hr) fun e a' w' hq => ?_)
 obtain ⟨s', h1, h2⟩ := hq
 cases e with
 | normal =>
  obtain ⟨v, hv, hl⟩ := h1
  exact k v hv E a' w' (hl E G a' w' h2)
 | _ => exact ⟨s', h1, h2⟩
theorem AWp.joinE1 {A : Type} {x : Code} (st : A → St) (R : A → Prop) (hx : AWp P G x (JoinE st R Q) s) (k : ∀ a, R a → Q .normal (st a)) : AWp P G x Q s := fun E a w hr => by
 refine wp_mono (hx E a w hr) fun e a' w' hq => ?_
 obtain ⟨s', h1, h2⟩ := hq
 cases e with
 | normal =>
  obtain ⟨v, hv, hl⟩ := h1
  exact ⟨st v, k v hv, hl E G a' w' h2⟩
 | _ => exact ⟨s', h1, h2⟩
theorem leafRow {fn : Func} {k t n : Nat} {es R : List (List RV)} (hr : es = R) (h : aresult P fn s = some (.sl k) := by as_aux_lemma => kernel_rfl) (hg : hget s.heap k = some (.row false t n es) := by as_aux_lemma => kernel_rfl) :
    RetQ P fn (fun r τ => ∃ k, r = (match false with | true => AV.tuple (.sl k :: []) | false => .sl k) ∧ τ = [(k, .row false t n R)]) .ret s :=
  ⟨.inr rfl, _, _, h, hget_one hg, k, rfl, by rw [hr]⟩
end
theorem AWp.nrow {P : Program} {G : Glob} {Q : Exit → St → Prop} {s : St} {c : Code} (k e n : Nat) (h : AWp P G c Q { s with slots := s.slots.set k (.sl s.next), heap := (s.next, .row false e n []) :: s.heap, next := s.next + 1 })
    (hk : s.slots[k]? = some (.rv (.v (.slice none 0 0))) := by as_aux_lemma => kernel_rfl) (hb : Nat.ble s.base s.next = true := by as_aux_lemma => kernel_rfl) : AWp P G c Q s :=
  AWp.le (Le.nilRow k e n hk (Nat.le_of_ble_eq_true hb) rfl) h
end Go.Av
namespace Go.Av
open Go

section
variable {P : Program} {G : Glob} {s0 : St}
theorem wanted_of {ops : Array Oper} {E : Entry} {s : St} {a : Act} {w : World} {o : Oper} {b : Bool} (hr : Rel E G s a w) (hg : gwant ops s o = some b) : Region.wanted o (yielded ops a.tmps) = b := by
 unfold gwant at hg
 split at hg
 ·rename_i hn
  simp at hg
  subst hg
  simp [Region.wanted, hn]
 ·rename_i j c hn
  split at hg
  ·rename_i d hdd
   split at hg
   ·rename_i c' hs
    have hy := yielded_of hr hdd hs
    simp only [Option.some.injEq] at hg
    cases c <;> cases c' <;> simp at hg <;> subst hg <;> simp [Region.wanted, hn, hy]
   ·rename_i cs hs
    have hy := yielded_none hr hdd hs
    simp at hg
    subst hg
    simp [Region.wanted, hn, hy]
   ·cases hg
  ·cases hg

theorem DStep.nl {ops : Array Oper} {T : List AV} {o : Oper} {v v' : AV} (m : List (Option Nat)) (h : DStep P G ops s0 T o v) (e : nilsA m v = v' := by as_aux_lemma => kernel_rfl) : DStep P G ops s0 T o v' := by
 subst e
 intro s h1 h2 h3 hlen hag
 rcases h s h1 h2 h3 hlen hag with ⟨hg, hop⟩ | ⟨hg, rfl⟩
 ·refine .inl ⟨hg, fun E a w hr K Q hK => hop E a w hr K Q fun a' w' hr' => hK a' w' ?_⟩
  obtain ⟨β, ro, h⟩ := hr'
  cases hd : o.dst with
  | none => simp only [hd, St.put] at h ⊢; exact ⟨β, ro, h⟩
  | some d =>
   simp only [hd, St.put] at h ⊢
   refine ⟨β, ro, h.defers, by simpa using h.size, fun i x hx => ?_, h.heap, h.glob, h.trans, h.base⟩
   by_cases hi : d = i
   ·subst hi
    simp only [List.getElem?_set, if_true] at hx
    split at hx
    ·rename_i hlt
     simp only [Option.some.injEq] at hx
     subst hx
     exact nilsA_rel (h.slot d v (by simp [hlt]))
    ·cases hx
   ·rw [List.getElem?_set_ne hi] at hx
    exact h.slot i x (by rw [List.getElem?_set_ne hi]; exact hx)
 ·exact .inr ⟨hg, rfl⟩
end
end Go.Av
