/- The AV calculus, part L: one step, and a list of steps, as a function that computes. Conditions: none. -/
import Derived.Test.YtjgpnceaicijcaaPMk
namespace Go.Av
open Go

def putS (s : St) (o : Oper) (v : AV) : Option St := some (s.put o.dst v)

def isStr (P : Program) (t : TypeId) : Bool :=
  match P.underlying t with
  | some .string => true
  | _ => false
def isBoolT (P : Program) (t : TypeId) : Bool :=
  match P.underlying t with
  | some .bool => true
  | _ => false
theorem isStr_spec {P : Program} {t : TypeId} (h : isStr P t = true) : P.underlying t = some .string := by
  unfold isStr at h
  split at h
  · assumption
  · cases h
theorem isBoolT_spec {P : Program} {t : TypeId} (h : isBoolT P t = true) : P.underlying t = some .bool := by
  unfold isBoolT at h
  split at h
  · assumption
  · cases h

def abuiltin (P : Program) (G : Glob) (b : Builtin) (xs : List Operand) (ts : List TypeId) (s : St) : Option AV :=
  match b, xs, ts with
  | .len, [x], [t] => match alen s.heap (aval G s x) with
    | some m => if isSlice P t then some (.rv (.v (.int .i64 (m : Int)))) else none
    | none => match aval G s x with
      | .rv (.v (.string b)) => if isStr P t then some (.rv (.v (.int .i64 (b.size : Int)))) else none
      | _ => match arrLen P t with
        | some n => some (.rv (.v (.int .i64 (n : Int))))
        | none => none
  | .min, [x, y], _ => match aval G s x, aval G s y with
    | .rv (.v (.int k m)), .rv (.v (.int k' n)) => if k = k' then some (.rv (.v (.int k (if n < m then n else m)))) else none
    | _, _ => none
  | .max, [x, y], _ => match aval G s x, aval G s y with
    | .rv (.v (.int k m)), .rv (.v (.int k' n)) => if k = k' then some (.rv (.v (.int k (if n > m then n else m)))) else none
    | _, _ => none
  | _, _, _ => none

/-- The value of one operation that leaves the world alone, computed; none where a rule wants more than computing. -/
def vstep (P : Program) (G : Glob) (o : Oper) (s : St) : Option AV :=
  match o.op with
  | .move x => some (aval G s x)
  | .assign x => some (aval G s x)
  | .load t x => match acells s.heap (aval G s x) with
    | some cs => match aggSize P t with
      | some n => if n ≤ cs.length ∧ 0 < n then some (.agg (cs.take n)) else none
      | none => if scalar P t then match cs with
        | y :: _ => some y
        | [] => none
        else none
    | none => none
  | .fieldAddr t x f => match fldOff P t f, ptrA s.heap (aval G s x) with
    | some k, true => some (shiftP k (aval G s x))
    | _, _ => none
  | .nilCheck x => match ptrA s.heap (aval G s x) with
    | true => some (aval G s x)
    | false => none
  | .field t x f => match aval G s x, fldPart P t f with
    | .agg cs, some (off, none) => match cs[off]? with
      | some v => some v
      | none => none
    | .agg cs, some (off, some n) => if off + n ≤ cs.length then some (.agg ((cs.drop off).take n)) else none
    | _, _ => none
  | .indexAddr t x i => match aval G s i with
    | .rv (.v (.int _ (.ofNat j))) => match elemSize P t with
      | some n => match aelem s.heap n j (aval G s x) with
        | some p => some p
        | none => none
      | none => match arrElem P t, acells s.heap (aval G s x) with
        | some (len, n), some _ => if j < len then match ashift (j * n) (aval G s x) with
          | some p => some p
          | none => none
          else none
        | _, _ => none
    | _ => none
  | .index t x i => match aval G s i, aval G s x with
    | .rv (.v (.int _ (.ofNat j))), .rv (.v (.string b)) => if isStr P t then match b.data.toList[j]? with
      | some u => some (.rv (.v (.int .u8 (u.toNat : Int))))
      | none => none
      else none
    | _, _ => none
  | .binOp op tx x y _ => match aval G s x, aval G s y with
    | .rv (.v (.bool u)), .rv (.v (.bool v)) => if isBoolT P tx then match op with
      | .eql => some (.rv (.v (.bool (u == v))))
      | .neq => some (.rv (.v (.bool (!(u == v)))))
      | _ => none
      else none
    | .rv (.v u), .rv (.v v) => match binV op u v with
      | some c => some (.rv (.v c))
      | none => none
    | .agg cs, .agg ds => match eqStruct P tx, avals cs, avals ds with
      | some fs, some xs, some ys => match eqFlat P 0 fs xs ys with
        | some b => match op with
          | .eql => some (.rv (.v (.bool b)))
          | .neq => some (.rv (.v (.bool (!b))))
          | _ => none
        | none => none
      | _, _, _ => none
    | _, _ => none
  | .unOp op _ x => match op, aval G s x with
    | .not, .rv (.v (.bool b)) => some (.rv (.v (.bool (!b))))
    | .neg, .rv (.v (.int k n)) => some (.rv (.v (.int k (k.wrap (0 - n)))))
    | _, _ => none
  | .pick c x y => match aval G s c with
    | .rv (.v (.bool true)) => some (aval G s x)
    | .rv (.v (.bool false)) => some (aval G s y)
    | _ => none
  | .extract x i => match aval G s x with
    | .tuple cs => match cs[i]? with
      | some v => some v
      | none => none
    | _ => none
  | .build t parts => match places P t, zeroCells P t with
    | some pl, some zs => if zs.all Value.oneCell' ∧ (parts.toList.map fun p => (p.1, aval G s p.2)).all (fun p => (vcells p.2).all (cellOkIn s.heap)) then
        match afill pl (zs.map fun z => .rv (.v z)) (parts.toList.map fun p => (p.1, aval G s p.2)) with
        | some ds => some (.agg ds)
        | none => none
      else none
    | _, _ => none
  | .call c => match c.callee with
    | .builtin b => abuiltin P G b c.args.toList c.argTypes.toList s
    | _ => none
  | .convert src dst x => match aval G s x, P.underlying dst with
    | .rv (.v (.int _ n)), some (.int k') => if (P.underlying src).isSome then some (.rv (.v (.int k' (k'.wrap n)))) else none
    | _, _ => none
  | _ => none

/-- One operation, computed. -/
def astep (P : Program) (G : Glob) (o : Oper) (s : St) : Option St :=
  match vstep P G o s with
  | some v => putS s o v
  | none => match o.op with
    | .store t p x => match aval G s p with
      | .ptr id off => match hget s.heap id with
        | some (.box bt cs) => if (vcells (aval G s x)).all (cellOkIn s.heap) ∧ (P.info? t).map (·.size) = some (vcells (aval G s x)).length ∧ off + (vcells (aval G s x)).length ≤ cs.length
          then putS { s with heap := hset s.heap id (.box bt (splice cs off (vcells (aval G s x)))) } o .top else none
        | _ => none
      | .eptr id i off => match hget s.heap id with
        | some (.row false bt n es) => match es[i]?, rvs (vcells (aval G s x)) with
          | some e, some vs => if (P.info? t).map (·.size) = some vs.length ∧ off + vs.length ≤ n then putS { s with heap := hset s.heap id (.row false bt n (es.set i (splice e off vs))) } o .top else none
          | _, _ => none
        | _ => none
      | _ => none
    | .alloc t => match zeroCells P t with
      | some zs => if zs.all Value.oneCell' ∧ s.base ≤ s.next then putS { s with heap := (s.next, .box t (zs.map fun z => .rv (.v z))) :: s.heap, next := s.next + 1 } o (.ptr s.next 0) else none
      | none => none
    | .box t x => if (vcells (aval G s x)).all (cellOkIn s.heap) ∧ s.base ≤ s.next then putS { s with heap := (s.next, .box t (vcells (aval G s x))) :: s.heap, next := s.next + 1 } o (.ptr s.next 0) else none
    | _ => none

section
variable {P : Program} {G : Glob} {o : Oper} {s s' : St} {v : AV}

theorem abuiltin_sound {b : Builtin} {args : Array Operand} {ts : Array TypeId} (ho : o.op = .call { callee := .builtin b, args, argTypes := ts }) (h : abuiltin P G b args.toList ts.toList s = some v) : VStep P G o s v := by
  unfold abuiltin at h
  split at h
  · rename_i x t ha htt
    have e1 : args = #[x] := by apply Array.ext'; simpa using ha
    have e2 : ts = #[t] := by apply Array.ext'; simpa using htt
    subst e1 e2
    split at h
    · rename_i m hm
      split at h
      · rename_i ht
        simp only [Option.some.injEq] at h; subst h; exact R_len x t ho ht hm
      · cases h
    · split at h
      · rename_i b hx
        split at h
        · rename_i ht
          simp only [Option.some.injEq] at h; subst h; exact R_len_str x t ho (isStr_spec ht) hx
        · cases h
      · split at h
        · rename_i n hn
          simp only [Option.some.injEq] at h; subst h; exact R_len_arr x t ho hn
        · cases h
  · rename_i x y ha
    have e1 : args = #[x, y] := by apply Array.ext'; simpa using ha
    subst e1
    split at h
    · rename_i k m k' n hx hy
      split at h
      · rename_i hk
        subst hk
        simp only [Option.some.injEq] at h; subst h; exact R_min2 x y ts ho hx hy
      · cases h
    · cases h
  · rename_i x y ha
    have e1 : args = #[x, y] := by apply Array.ext'; simpa using ha
    subst e1
    split at h
    · rename_i k m k' n hx hy
      split at h
      · rename_i hk
        subst hk
        simp only [Option.some.injEq] at h; subst h; exact R_max2 x y ts ho hx hy
      · cases h
    · cases h
  · cases h

theorem vstep_sound (h : vstep P G o s = some v) : VStep P G o s v := by
  unfold vstep at h
  split at h
  · rename_i x ho
    simp only [Option.some.injEq] at h; subst h; exact R_move x ho
  · rename_i x ho
    simp only [Option.some.injEq] at h; subst h; exact R_assign x ho
  · rename_i t x ho
    split at h
    · rename_i cs hc
      split at h
      · rename_i n hn
        split at h
        · rename_i hl
          simp only [Option.some.injEq] at h; subst h; exact R_load_agg t x ho hn hc hl.1 hl.2
        · cases h
      · split at h
        · rename_i hs
          split at h
          · simp only [Option.some.injEq] at h; subst h; exact R_load t x ho hs hc
          · cases h
        · cases h
    · cases h
  · rename_i t x f ho
    split at h
    · rename_i k hk hc
      simp only [Option.some.injEq] at h; subst h; exact R_fieldAddrP t x f ho hk hc
    · cases h
  · rename_i x ho
    split at h
    · rename_i hc
      simp only [Option.some.injEq] at h; subst h; exact R_nilCheckP x ho hc
    · cases h
  · rename_i t x f ho
    split at h
    · rename_i cs off hx ht
      split at h
      · rename_i v hv
        simp only [Option.some.injEq] at h; subst h; exact R_field t x f ho ht hx hv
      · cases h
    · rename_i cs off n hx ht
      split at h
      · rename_i hn
        simp only [Option.some.injEq] at h; subst h; exact R_field_agg t x f ho ht hx hn
      · cases h
    · cases h
  · rename_i t x i ho
    split at h
    · rename_i k j hi
      split at h
      · rename_i n hn
        split at h
        · rename_i p hp
          simp only [Option.some.injEq] at h; subst h; exact R_indexAddr t x i ho hn hi hp
        · cases h
      · split at h
        · rename_i len n cs ht hcs
          split at h
          · rename_i hj
            split at h
            · rename_i p hp
              simp only [Option.some.injEq] at h; subst h; exact R_indexAddr_arr t x i ho ht hi hj hcs hp
            · cases h
          · cases h
        · cases h
    · cases h
  · rename_i t x i ho
    split at h
    · rename_i k j b hi hx
      split at h
      · rename_i ht
        split at h
        · rename_i u hu
          simp only [Option.some.injEq] at h; subst h; exact R_index_str t x i ho (isStr_spec ht) hi hx hu
        · cases h
      · cases h
    · cases h
  · rename_i op tx x y ty ho
    split at h
    · rename_i u v hx hy
      split at h
      · rename_i ht
        split at h
        · simp only [Option.some.injEq] at h; subst h; exact R_eql_bool tx ty x y ho (isBoolT_spec ht) hx hy
        · simp only [Option.some.injEq] at h; subst h; exact R_neq_bool tx ty x y ho (isBoolT_spec ht) hx hy
        · cases h
      · cases h
    · rename_i u v _ hx hy
      split at h
      · rename_i c hc
        simp only [Option.some.injEq] at h; subst h; exact R_bin _ tx ty x y ho hx hy hc
      · cases h
    · rename_i cs ds hx hy
      split at h
      · rename_i fs xs ys hf hxs hys
        split at h
        · rename_i b hb
          split at h
          · simp only [Option.some.injEq] at h; subst h; exact R_eql_agg tx ty x y ho hf hx hy hxs hys hb
          · simp only [Option.some.injEq] at h; subst h; exact R_neq_agg tx ty x y ho hf hx hy hxs hys hb
          · cases h
        · cases h
      · cases h
    · cases h
  · rename_i op t x ho
    split at h
    · rename_i b hx
      simp only [Option.some.injEq] at h; subst h; exact R_not t x ho hx
    · rename_i k n hx
      simp only [Option.some.injEq] at h; subst h; exact R_neg t x ho hx
    · cases h
  · rename_i c x y ho
    split at h
    · rename_i hc
      simp only [Option.some.injEq] at h; subst h; exact R_pick c x y ho hc rfl
    · rename_i hc
      simp only [Option.some.injEq] at h; subst h; exact R_pick c x y ho hc rfl
    · cases h
  · rename_i x i ho
    split at h
    · rename_i cs hx
      split at h
      · rename_i v hv
        simp only [Option.some.injEq] at h; subst h; exact R_extract x i ho hx hv
      · cases h
    · cases h
  · rename_i t parts ho
    split at h
    · rename_i pl zs hp hz
      split at h
      · rename_i hc
        split at h
        · rename_i ds hf
          simp only [Option.some.injEq] at h; subst h; exact R_build t parts ho hp hz hc.1 rfl hc.2 hf
        · cases h
      · cases h
    · cases h
  · rename_i c ho
    split at h
    · rename_i b hb
      obtain ⟨callee, args, ts⟩ := c
      simp only at hb h
      subst hb
      exact abuiltin_sound ho h
    · cases h
  · rename_i src dst x ho
    split at h
    · rename_i k n k' hx hd
      split at h
      · rename_i hs
        simp only [Option.some.injEq] at h; subst h; exact R_convert_int src dst x ho hs hd hx
      · cases h
    · cases h
  · cases h



theorem astep_sound (h : astep P G o s = some s') : OpStep P G o s s' := by
  unfold astep at h
  split at h
  · rename_i v hv
    simp only [putS, Option.some.injEq] at h
    subst h
    exact (vstep_sound hv).step
  · split at h
    · rename_i t p x ho
      split at h
      · rename_i id off hp
        split at h
        · rename_i bt cs hg
          split at h
          · rename_i hc
            simp only [putS, Option.some.injEq] at h; subst h; exact R_store t p x ho hp hg rfl hc.1 hc.2.1 hc.2.2
          · cases h
        · cases h
      · rename_i id i off hp
        split at h
        · rename_i bt n es hg
          split at h
          · rename_i e vs he hv
            split at h
            · rename_i hc
              simp only [putS, Option.some.injEq] at h; subst h; exact R_store_row t p x ho hp hg he hv hc.1 hc.2
            · cases h
          · cases h
        · cases h
      · cases h
    · rename_i t ho
      split at h
      · rename_i zs hz
        split at h
        · rename_i hc
          simp only [putS, Option.some.injEq] at h; subst h; exact R_alloc t ho hc.2 hz hc.1
        · cases h
      · cases h
    · rename_i t x ho
      split at h
      · rename_i hc
        simp only [putS, Option.some.injEq] at h; subst h; exact R_box t x ho hc.2 hc.1
      · cases h
    · cases h

/-- Does a guard let the operation run. -/
def gwant (ops : Array Oper) (s : St) (o : Oper) : Option Bool :=
  match o.guard with
  | none => some true
  | some (j, b) => match gslot ops j with
    | some d => match s.slots[d]? with
      | some (.rv (.v (.bool c))) => some (match b, c with
        | true, true => true
        | false, false => true
        | _, _ => false)
      | some (.tuple _) => some false
      | _ => none
    | none => none

/-- n operations. -/
def aops (P : Program) (G : Glob) (ops : Array Oper) : Nat → List Oper → St → Option St
  | 0, _, s => some s
  | n + 1, o :: r, s => match gwant ops s o with
    | some true => match astep P G o s with
      | some s' => aops P G ops n r s'
      | none => none
    | some false => aops P G ops n r (s.put o.dst (.tuple []))
    | none => none
  | _ + 1, [], _ => none

variable {Q : Exit → St → Prop}

theorem AOps.step {ops : Array Oper} {rest : List Oper} (hg : gwant ops s o = some true) (h : OpStep P G o s s') (k : AOps P G ops Q rest s') : AOps P G ops Q (o :: rest) s := by
  unfold gwant at hg
  split at hg
  · rename_i hn
    exact AOps.cons hn h k
  · rename_i j b hn
    split at hg
    · rename_i d hd
      split at hg
      · rename_i c hs
        simp only [Option.some.injEq] at hg
        have hbc : b = c := by cases b <;> cases c <;> simp_all
        subst hbc
        exact AOps.guarded hn hd hs h k
      · cases hg
      · cases hg
    · cases hg

theorem AOps.pass {ops : Array Oper} {rest : List Oper} (hg : gwant ops s o = some false) (k : AOps P G ops Q rest (s.put o.dst (.tuple []))) : AOps P G ops Q (o :: rest) s := by
  unfold gwant at hg
  split at hg
  · cases hg
  · rename_i j b hn
    split at hg
    · rename_i d hd
      split at hg
      · rename_i c hs
        simp only [Option.some.injEq] at hg
        have hbc : c = !b := by cases b <;> cases c <;> simp_all
        subst hbc
        exact AOps.skipped hn hd hs k
      · rename_i cs hs
        exact AOps.skippedN hn hd hs k
      · cases hg
    · cases hg

theorem AOps.run {ops : Array Oper} : ∀ (n : Nat) {l : List Oper} {s s' : St}, aops P G ops n l s = some s' → AOps P G ops Q (l.drop n) s' → AOps P G ops Q l s
  | 0, l, s, s', h, k => by
    simp [aops] at h
    subst h
    exact k
  | n + 1, [], s, s', h, k => by simp [aops] at h
  | n + 1, o :: r, s, s', h, k => by
    simp only [aops] at h
    split at h
    · rename_i hg
      split at h
      · rename_i s1 h1
        exact AOps.step hg (astep_sound h1) (AOps.run n h k)
      · cases h
    · rename_i hg
      exact AOps.pass hg (AOps.run n h k)
    · cases h

end
end Go.Av
