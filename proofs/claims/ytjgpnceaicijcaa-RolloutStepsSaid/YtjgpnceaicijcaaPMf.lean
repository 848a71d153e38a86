/- The AV calculus, part F: rules for operations that give values. Conditions: none. -/
import Derived.Test.YtjgpnceaicijcaaPMe
import Derived.Laws.StructEq
import Derived.ChangeKeysEq
namespace Go.Av
open Go

/-- Equality of strings, by their bytes. -/
def beqS (a b : ByteArray) : Bool := a.data.toList == b.data.toList
theorem beqS_eq (a b : ByteArray) : beqS a b = decide (a = b) := by
  unfold beqS
  obtain ⟨⟨x⟩⟩ := a
  obtain ⟨⟨y⟩⟩ := b
  rw [Bool.eq_iff_iff]
  simp
theorem beqS_list (a b : ByteArray) : (a.toList == b.toList) = beqS a b := by rw [ByteArray.toList_eq, ByteArray.toList_eq]; rfl
@[simp] theorem beqS_iff {a b : ByteArray} : beqS a b = true ↔ a = b := by rw [beqS_eq]; simp
@[simp] theorem beqS_niff {a b : ByteArray} : beqS a b = false ↔ a ≠ b := by rw [beqS_eq]; simp
@[simp] theorem beqS_self (a : ByteArray) : beqS a a = true := by simp

/-- The order of strings. -/
def ltS (a b : ByteArray) : Bool := Op.bytesLess a.data.toList b.data.toList
theorem ltS_list (a b : ByteArray) : Op.bytesLess a.toList b.toList = ltS a b := by rw [ByteArray.toList_eq, ByteArray.toList_eq]; rfl

def cmpV (op : BinOp) (a b : Int) : Option Value :=
  match op with
  | .eql => some (.bool (a == b))
  | .neq => some (.bool (a != b))
  | .lss => some (.bool (decide (a < b)))
  | .leq => some (.bool (decide (a ≤ b)))
  | .gtr => some (.bool (decide (a > b)))
  | .geq => some (.bool (decide (a ≥ b)))
  | _ => none

/-- Binary operations on values of one cell, as a function. -/
def binV (op : BinOp) : Value → Value → Option Value
  | .int k a, .int k' b =>
    match op with
    | .shl => if b < 0 then none else some (.int k (k.wrap (a * 2 ^ (min b.toNat k.bits))))
    | .shr => if b < 0 then none else some (.int k (a.fdiv (2 ^ (min b.toNat k.bits))))
    | op => if k = k' then match op with
      | .add => some (.int k (k.wrap (a + b)))
      | .sub => some (.int k (k.wrap (a - b)))
      | .mul => some (.int k (k.wrap (a * b)))
      | .quo => if b = 0 then none else some (.int k (k.wrap (a.tdiv b)))
      | .rem => if b = 0 then none else some (.int k (a.tmod b))
      | op => cmpV op a b
      else none
  | .string a, .string b =>
    match op with
    | .add => if ((a.size + b.size : Nat) : Int) > IntKind.i64.max then none else some (.string (a ++ b))
    | .eql => some (.bool (beqS a b))
    | .neq => some (.bool (!beqS a b))
    | .lss => some (.bool (ltS a b))
    | .leq => some (.bool (ltS a b || beqS a b))
    | .gtr => some (.bool (!(ltS a b || beqS a b)))
    | .geq => some (.bool (!ltS a b))
    | _ => none
  | _, _ => none

theorem binV_run {P : Program} {op : BinOp} {x y c : Value} (h : binV op x y = some c) (t : TypeId) (p q : Operand) (w : World) :
    (eqGuard op t p q x y).run P w = .ok () w ∧ (binOp op t x y).run P w = .ok c w ∧ c.oneCell' = true := by
  cases x with
  | int k a =>
    cases y with
    | int k' b =>
      simp only [binV] at h
      refine ⟨by rw [eqGuard_at_int]; rfl, ?_⟩
      cases op
      all_goals first
        | (simp only at h
           split at h
           · cases h
           · rename_i hn
             simp only [Option.some.injEq] at h
             subst h
             refine ⟨?_, rfl⟩
             simp [binOp, Op.shift, hn]; done)
        | (simp only at h
           split at h
           · rename_i hk
             subst hk
             first
               | (simp only [Option.some.injEq, cmpV] at h
                  subst h
                  exact ⟨by simp [binOp, Op.intArith, Op.intCmp], rfl⟩)
               | (split at h
                  · cases h
                  · rename_i hz
                    simp only [Option.some.injEq] at h
                    subst h
                    exact ⟨by simp [binOp, Op.intDiv, hz], rfl⟩)
               | (simp [cmpV] at h; done)
           · cases h)
    | _ => simp [binV] at h
  | string a =>
    cases y with
    | string b =>
      simp only [binV] at h
      refine ⟨by rw [eqGuard_at_string]; rfl, ?_⟩
      cases op <;> simp only at h
      all_goals first
        | cases h; done
        | (split at h
           · cases h
           · rename_i hn
             simp only [Option.some.injEq] at h
             subst h
             exact ⟨by simp only [binOp_string_add, Op.stringOp, hn, if_false]; rfl, rfl⟩)
        | (simp only [Option.some.injEq] at h
           subst h
           exact ⟨by simp only [binOp, Op.stringOp, beqS_list, ltS_list]; rfl, rfl⟩)
    | _ => simp [binV] at h
  | _ => simp [binV] at h

section
variable {P : Program} {G : Glob} {o : Oper} {s : St}

theorem ARel.val {w : World} {ro : Nat → Prop} {σ : Heap} {β : Nat → Value} {N : Nat} {x c : Value} (h : ARel w ro σ β N (.rv (.v x)) c) : c = x := by
  cases h with
  | rv _ _ h => cases h; rfl

theorem RelAt.evalV {E : Entry} {a : Act} {w : World} {β : Nat → Value} {ro : Nat → Prop} (h : RelAt E G s a w β ro) {x : Operand} {v : Value} (hx : aval G s x = .rv (.v v)) : a.eval x = v :=
  ARel.val (hx ▸ h.eval x)

theorem ARel.ofV {w : World} {ro : Nat → Prop} {σ : Heap} {β : Nat → Value} {N : Nat} {c : Value} (h : c.oneCell' = true) : ARel w ro σ β N (.rv (.v c)) c := .rv _ _ (.v _ h)

theorem R_bin (op : BinOp) (tx ty : TypeId) (x y : Operand) (ho : o.op = .binOp op tx x y ty) {u v c : Value} (hx : aval G s x = .rv (.v u)) (hy : aval G s y = .rv (.v v)) (hc : binV op u v = some c) :
    VStep P G o s (.rv (.v c)) :=
  fun _ a w β ro hr => by
    obtain ⟨h1, h2, h3⟩ := binV_run (P := P) hc tx x y w
    exact ⟨c, by simp [execOp, ho, hr.evalV hx, hr.evalV hy, h1, h2], .ofV h3⟩

/-- == and != on booleans. -/
theorem R_eql_bool (tx ty : TypeId) (x y : Operand) (ho : o.op = .binOp .eql tx x y ty) (ht : P.underlying tx = some .bool) {u v : Bool} (hx : aval G s x = .rv (.v (.bool u))) (hy : aval G s y = .rv (.v (.bool v))) :
    VStep P G o s (.rv (.v (.bool (u == v)))) :=
  fun _ a w β ro hr => ⟨.bool (u == v), by simp [execOp, ho, hr.evalV hx, hr.evalV hy, eqGuard_at_bool, run_eql_bool w tx u v ht], .ofV rfl⟩
theorem R_neq_bool (tx ty : TypeId) (x y : Operand) (ho : o.op = .binOp .neq tx x y ty) (ht : P.underlying tx = some .bool) {u v : Bool} (hx : aval G s x = .rv (.v (.bool u))) (hy : aval G s y = .rv (.v (.bool v))) :
    VStep P G o s (.rv (.v (.bool (!(u == v))))) :=
  fun _ a w β ro hr => ⟨.bool (!(u == v)), by simp [execOp, ho, hr.evalV hx, hr.evalV hy, eqGuard_at_bool, run_neq_bool w tx u v ht], .ofV rfl⟩

/-- Equality of two structs whose fields are integers, booleans and strings. -/
def eqV : Value → Value → Option Bool
  | .int k a, .int k' b => if k = k' then some (a == b) else none
  | .bool a, .bool b => some (a == b)
  | .string a, .string b => some (beqS a b)
  | _, _ => none
def fitT (P : Program) (t : TypeId) : Value → Bool
  | .int k _ => match P.underlying t with
    | some (.int k') => decide (k = k')
    | _ => false
  | .bool _ => match P.underlying t with
    | some .bool => true
    | _ => false
  | .string _ => match P.underlying t with
    | some .string => true
    | _ => false
  | _ => false
def eqFlat (P : Program) : Nat → List Field → List Value → List Value → Option Bool
  | _, [], _, _ => some true
  | k, f :: fs, x :: xs, y :: ys =>
    if f.name = "_" || f.offset != k || !fitT P f.type x then none
    else match eqV x y, eqFlat P (k + 1) fs xs ys with
      | some a, some b => some (a && b)
      | _, _ => none
  | _, _, _, _ => none

theorem eqV_run {t : TypeId} {x y : Value} {b : Bool} (h : eqV x y = some b) (hf : fitT P t x = true) (d : Nat) (w : World) : (Op.equalIn (d + 1) t x y).run P w = .ok b w ∧ x.oneCell' = true ∧ y.oneCell' = true ∧ (isAgg t).run P w = .ok false w := by
  cases x with
  | int k a =>
    cases y with
    | int k' b' =>
      simp only [eqV] at h
      split at h
      · rename_i hk
        subst hk
        simp only [Option.some.injEq] at h
        subst h
        simp only [fitT] at hf
        split at hf
        · rename_i k2 hu
          exact ⟨run_equalIn_int w d t k k2 a b' hu, rfl, rfl, by simp [isAgg, run_underlying hu]⟩
        · cases hf
      · cases h
    | _ => simp [eqV] at h
  | bool a =>
    cases y with
    | bool b' =>
      simp only [eqV, Option.some.injEq] at h
      subst h
      simp only [fitT] at hf
      split at hf
      · rename_i hu
        exact ⟨run_equalIn_bool w d t a b' hu, rfl, rfl, by simp [isAgg, run_underlying hu]⟩
      · cases hf
    | _ => simp [eqV] at h
  | string a =>
    cases y with
    | string b' =>
      simp only [eqV, Option.some.injEq] at h
      subst h
      simp only [fitT] at hf
      split at hf
      · rename_i hu
        refine ⟨?_, rfl, rfl, by simp [isAgg, run_underlying hu]⟩
        rw [run_equalIn_string w d t a b' hu, beqS_list]
      · cases hf
    | _ => simp [eqV] at h
  | _ => simp [eqV] at h

theorem eqFlat_run : ∀ (fs : List Field) (k : Nat) (xs ys : List Value) (X Y : Array Value) (b : Bool) (d : Nat) (w : World), eqFlat P k fs xs ys = some b → (∀ j x, xs[j]? = some x → X[k + j]? = some x) → (∀ j y, ys[j]? = some y → Y[k + j]? = some y) →
    (Op.eqFields (d + 1) X Y fs).run P w = .ok b w
  | [], k, xs, ys, X, Y, b, d, w, h, hX, hY => by
    simp [eqFlat] at h
    subst h
    simp [Op.eqFields]
  | f :: fs, k, [], ys, X, Y, b, d, w, h, _, _ => by cases ys <;> simp [eqFlat] at h
  | f :: fs, k, x :: xs, [], X, Y, b, d, w, h, _, _ => by simp [eqFlat] at h
  | f :: fs, k, x :: xs, y :: ys, X, Y, b, d, w, h, hX, hY => by
    simp only [eqFlat] at h
    split at h
    · cases h
    · rename_i hc
      simp only [Bool.or_eq_true, decide_eq_true_eq, bne_iff_ne, ne_eq, Bool.not_eq_true', not_or, Decidable.not_not, Bool.not_eq_false] at hc
      obtain ⟨⟨hname, hoff⟩, hfit⟩ := hc
      cases he : eqV x y with
      | none => simp [he] at h
      | some b1 =>
        cases hr : eqFlat P (k + 1) fs xs ys with
        | none => simp [he, hr] at h
        | some b2 =>
          simp only [he, hr, Option.some.injEq] at h
          subst h
          obtain ⟨h1, _, _, h4⟩ := eqV_run he hfit d w
          have hx0 := hX 0 x rfl
          have hy0 := hY 0 y rfl
          have ih := eqFlat_run fs (k + 1) xs ys X Y b2 d w hr (fun j x hj => by have := hX (j + 1) x hj; rwa [show k + (j + 1) = k + 1 + j from by omega] at this) (fun j x hj => by have := hY (j + 1) x hj; rwa [show k + (j + 1) = k + 1 + j from by omega] at this)
          simp only [Nat.add_zero] at hx0 hy0
          simp only [Op.eqFields, Sem.run_bind, hname, ne_eq, not_false_eq_true, if_true, part, h4, Result.andThen_ok, Bool.false_eq_true, if_false, hoff, hx0, hy0, Sem.run_pure, h1]
          cases b1
          · simp
          · simpa using ih

def avals : List AV → Option (List Value)
  | [] => some []
  | .rv (.v x) :: r => match avals r with
    | some l => some (x :: l)
    | none => none
  | _ :: _ => none

theorem avals_rel {w : World} {ro : Nat → Prop} {σ : Heap} {β : Nat → Value} {N : Nat} : ∀ {cs : List AV} {l : List Value} {c : Nat → Value}, avals cs = some l → (∀ j x, cs[j]? = some x → ARel w ro σ β N x (c j)) → l.length = cs.length ∧ ∀ j x, l[j]? = some x → c j = x
  | [], l, c, h, _ => by simp [avals] at h; subst h; simp
  | .rv (.v x) :: r, l, c, h, hc => by
    simp only [avals] at h
    cases hr : avals r with
    | none => simp [hr] at h
    | some l' =>
      simp [hr] at h
      subst h
      obtain ⟨h1, h2⟩ := avals_rel (c := fun j => c (j + 1)) hr fun j x hj => hc (j + 1) x hj
      refine ⟨by simp [h1], fun j y hj => ?_⟩
      cases j with
      | zero => simp at hj; subst hj; exact ARel.val (hc 0 _ rfl)
      | succ j => exact h2 j y hj
  | .rv (.ptr _) :: _, _, _, h, _ => by simp [avals] at h
  | .rv (.sl _ _) :: _, _, _, h, _ => by simp [avals] at h
  | .agg _ :: _, _, _, h, _ => by simp [avals] at h
  | .tuple _ :: _, _, _, h, _ => by simp [avals] at h
  | .ptr _ _ :: _, _, _, h, _ => by simp [avals] at h
  | .eptr _ _ _ :: _, _, _, h, _ => by simp [avals] at h
  | .sl _ :: _, _, _, h, _ => by simp [avals] at h
  | .fn _ _ _ :: _, _, _, h, _ => by simp [avals] at h
  | .ref _ :: _, _, _, h, _ => by simp [avals] at h
  | .top :: _, _, _, h, _ => by simp [avals] at h

/-- An element of an array as a field. -/
def asField (e : TypeId) (c i : Nat) : Field := { (default : Field) with name := "e", type := e, offset := i * c }
theorem eqItems_fields (d : Nat) (e : TypeId) (c : Nat) (X Y : Array Value) : ∀ (is : List Nat), Op.eqFields d X Y (is.map (asField e c)) = Op.eqItems d e c X Y is
  | [] => rfl
  | i :: is => by
    simp only [List.map_cons, Op.eqFields, Op.eqItems, eqItems_fields d e c X Y is]
    rfl
/-- The type is a struct or an array that can be compared plainly; its fields. -/
def eqStruct (P : Program) (t : TypeId) : Option (List Field) :=
  match P.underlying t with
  | some (.struct fs) => if P.stoodInHeld t || P.eqGuardType P.depth t then none else some fs.toList
  | some (.array n e) => match P.info? e with
    | some _ => if P.eqGuardType P.depth t then none else some ((List.range n).map (asField e (P.cellsOf e)))
    | none => none
  | _ => none

theorem eqStruct_run {t : TypeId} {fs : List Field} (h : eqStruct P t = some fs) {cs ds : List AV} {xs ys : List Value} {b : Bool} (hxs : avals cs = some xs) (hys : avals ds = some ys) (hb : eqFlat P 0 fs xs ys = some b)
    {w : World} {ro : Nat → Prop} {σ : Heap} {β : Nat → Value} {N : Nat} {X Y : Value} (hX : ARel w ro σ β N (.agg cs) X) (hY : ARel w ro σ β N (.agg ds) Y) :
    ∃ p q, X = .agg p ∧ Y = .agg q ∧ P.eqGuardType P.depth t = false ∧ (Op.equalIn 10000 t (.agg p) (.agg q)).run P w = .ok b w := by
  unfold eqStruct at h
  split at h
  · rename_i fa hu
    split at h
    · cases h
    · rename_i hc
      simp only [Bool.or_eq_true, not_or, Bool.not_eq_true] at hc
      simp only [Option.some.injEq] at h
      subst h
      cases hX with
      | agg _ p hp hpc =>
        cases hY with
        | agg _ q hq hqc =>
          refine ⟨p, q, rfl, rfl, hc.2, ?_⟩
          have hfo : P.fieldsOf t = fa := by simp [Program.fieldsOf, hu]
          rw [run_equalIn_struct w 9999 t p q (by rw [hfo]; exact hu) hc.1, hfo]
          obtain ⟨h1, h2⟩ := avals_rel (c := fun j => p.getD j undef) hxs hpc
          obtain ⟨h3, h4⟩ := avals_rel (c := fun j => q.getD j undef) hys hqc
          refine eqFlat_run fa.toList 0 xs ys p q b 9998 w hb (fun j x hj => ?_) (fun j x hj => ?_)
          · have hlt : j < p.size := by
              rcases Nat.lt_or_ge j xs.length with h | h
              · omega
              · rw [List.getElem?_eq_none h] at hj; cases hj
            have := h2 j x hj
            simp [hlt] at this
            simp [hlt, this]
          · have hlt : j < q.size := by
              rcases Nat.lt_or_ge j ys.length with h | h
              · omega
              · rw [List.getElem?_eq_none h] at hj; cases hj
            have := h4 j x hj
            simp [hlt] at this
            simp [hlt, this]
  · rename_i n e hu
    split at h
    · rename_i inf hinf
      split at h
      · cases h
      · rename_i hc
        simp only [Bool.not_eq_true] at hc
        simp only [Option.some.injEq] at h
        subst h
        cases hX with
        | agg _ p hp hpc =>
          cases hY with
          | agg _ q hq hqc =>
            refine ⟨p, q, rfl, rfl, hc, ?_⟩
            rw [run_equalIn_array w 9999 p q hu hinf, ← eqItems_fields]
            obtain ⟨h1, h2⟩ := avals_rel (c := fun j => p.getD j undef) hxs hpc
            obtain ⟨h3, h4⟩ := avals_rel (c := fun j => q.getD j undef) hys hqc
            refine eqFlat_run _ 0 xs ys p q b 9998 w hb (fun j x hj => ?_) (fun j x hj => ?_)
            · have hlt : j < p.size := by
                rcases Nat.lt_or_ge j xs.length with h | h
                · omega
                · rw [List.getElem?_eq_none h] at hj; cases hj
              have := h2 j x hj
              simp [hlt] at this
              simp [hlt, this]
            · have hlt : j < q.size := by
                rcases Nat.lt_or_ge j ys.length with h | h
                · omega
                · rw [List.getElem?_eq_none h] at hj; cases hj
              have := h4 j x hj
              simp [hlt] at this
              simp [hlt, this]
    · cases h
  · cases h

theorem R_eql_agg (tx ty : TypeId) (x y : Operand) (ho : o.op = .binOp .eql tx x y ty) {fs : List Field} (h : eqStruct P tx = some fs) {cs ds : List AV} (hx : aval G s x = .agg cs) (hy : aval G s y = .agg ds)
    {xs ys : List Value} {b : Bool} (hxs : avals cs = some xs) (hys : avals ds = some ys) (hb : eqFlat P 0 fs xs ys = some b) : VStep P G o s (.rv (.v (.bool b))) :=
  fun _ a w β ro hr => by
    obtain ⟨p, q, h1, h2, h3, h4⟩ := eqStruct_run h hxs hys hb (hx ▸ hr.eval x) (hy ▸ hr.eval y)
    exact ⟨.bool b, by simp only [execOp, ho, h1, h2, Sem.run_bind, run_eqGuard_agg w .eql tx x y p q h3, Result.andThen_ok, run_eql_struct, h4, Sem.run_pure], .ofV rfl⟩
theorem R_neq_agg (tx ty : TypeId) (x y : Operand) (ho : o.op = .binOp .neq tx x y ty) {fs : List Field} (h : eqStruct P tx = some fs) {cs ds : List AV} (hx : aval G s x = .agg cs) (hy : aval G s y = .agg ds)
    {xs ys : List Value} {b : Bool} (hxs : avals cs = some xs) (hys : avals ds = some ys) (hb : eqFlat P 0 fs xs ys = some b) : VStep P G o s (.rv (.v (.bool (!b)))) :=
  fun _ a w β ro hr => by
    obtain ⟨p, q, h1, h2, h3, h4⟩ := eqStruct_run h hxs hys hb (hx ▸ hr.eval x) (hy ▸ hr.eval y)
    exact ⟨.bool (!b), by simp only [execOp, ho, h1, h2, Sem.run_bind, run_eqGuard_agg w .neq tx x y p q h3, Result.andThen_ok, run_neq_struct, h4, Sem.run_pure], .ofV rfl⟩

theorem R_not (t : TypeId) (x : Operand) (ho : o.op = .unOp .not t x) {b : Bool} (hx : aval G s x = .rv (.v (.bool b))) : VStep P G o s (.rv (.v (.bool (!b)))) :=
  fun _ a w β ro hr => ⟨.bool (!b), by simp [execOp, ho, hr.evalV hx, Op.unary], .ofV rfl⟩
theorem R_neg (t : TypeId) (x : Operand) (ho : o.op = .unOp .neg t x) {k : IntKind} {n : Int} (hx : aval G s x = .rv (.v (.int k n))) : VStep P G o s (.rv (.v (.int k (k.wrap (0 - n))))) :=
  fun _ a w β ro hr => ⟨.int k (k.wrap (0 - n)), by simp [execOp, ho, hr.evalV hx, Op.unary, Op.intArith], .ofV rfl⟩

theorem R_pick (c x y : Operand) (ho : o.op = .pick c x y) {b : Bool} (hc : aval G s c = .rv (.v (.bool b))) {v : AV} (hv : (if b then aval G s x else aval G s y) = v) : VStep P G o s v :=
  fun _ a w β ro hr => ⟨if b then a.eval x else a.eval y, by simp [execOp, ho, hr.evalV hc, asBool], by
    subst hv
    cases b
    · simpa using hr.eval y
    · simpa using hr.eval x⟩

theorem R_extract (x : Operand) (i : Nat) (ho : o.op = .extract x i) {cs : List AV} (hx : aval G s x = .tuple cs) {v : AV} (hv : cs[i]? = some v) : VStep P G o s v :=
  fun _ a w β ro hr => by
    have h := hr.eval x
    rw [hx] at h
    generalize he : a.eval x = c at h
    cases h with
    | tuple _ c hs hc =>
      have hlt : i < c.size := by have := (List.getElem?_eq_some_iff.1 hv).1; omega
      refine ⟨c[i], ?_, ?_⟩
      · simp [execOp, ho, Instr.extract, he, hlt]
      · simpa [hlt] using hc i v hv
end
end Go.Av
