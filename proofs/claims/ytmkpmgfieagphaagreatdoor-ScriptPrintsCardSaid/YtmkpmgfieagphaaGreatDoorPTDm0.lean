/- TD, part J: more operations that give values; all of them. Conditions: none. -/
import Derived.Test.YtmkpmgfieagphaaGreatDoorPTDi
import Derived.Laws.Externs
import Derived.Laws.LoneSync
import Derived.LaidEqlPtr
import Derived.Test.YtmkpmgfieagphaaGreatDoorPSMu
import Derived.Test.YtmkpmgfieagphaaGreatDoorPTDb
import Derived.Lib.AppendStr
namespace Go.Av
open Go

def SV.ungd (x g : SV) (b : Bool) : SV :=
 match x with
 | .gd h c v => match sameV g h && (decide (c = b)) with
  | true => v
  | false => x
 | x => x
def opPick (S : SS) (c x y : SV) : Option Rs :=
 match c, knownB c S.g with
 | .cs (.bool b), _ => some ⟨[], [], match b with | true => x | false => y⟩
 | c, some b => match c.rt with
  | some .bool => some ⟨[], [], match b with | true => x | false => y⟩
  | _ => none
 | c, none => match c.rt with
  | some .bool => match (match (x.ungd c true).rt with | some r => some r | none => (y.ungd c false).rt) with
   | some r => match (x.ungd c true).is1 r && ((y.ungd c false).is1 r && r.one) with
    | true => some ⟨[.pk r c (x.ungd c true) (y.ungd c false)], [], .va r S.k⟩
    | false => none
   | none => none
  | _ => none
def rtAll (r : Rt) : List SV → Bool
 | [] => true
 | x :: l => x.is1 r && rtAll r l
def rtHead : List SV → Option Rt
 | [] => none
 | x :: _ => x.rt
def opIndex (P : Program) (S : SS) (t : TypeId) (x i : SV) : Option Rs :=
 match x with
 | .ag l => match P.underlying t with
  | some (.array len el) => match scalar P el && Nat.beq l.length len, (P.info? el).map (·.size) with
   | true, some 1 => match i with
    | .cs (.int .i64 (.ofNat j)) => match l[j]? with
     | some v => some ⟨[], [], v⟩
     | none => none
    | i => match i.rt, rtHead l with
     | some (.int .i64), some r => match rtAll r l && r.one with
      | true => some ⟨[.nth r l i], nthN S.g l.length i, .va r S.k⟩
      | false => none
     | _, _ => none
   | _, _ => none
  | _ => none
 | x => match x.rt, i.rt, isStr P t with
  | some .str, some (.int k), true => some ⟨[.f2 (.ixS k) x i], idxN S.g .lnS (.ixS k) x i, .va (.int .u8) S.k⟩
  | _, _, _ => none
def liOf (x : SV) : Option TC :=
 match x.rt with
 | some (.li c) => some c
 | _ => none
def nilTC (P : Program) (t : TypeId) (n : Nat) : Option TC :=
 match P.underlying t with
 | some (.slice el) => allTC.find? fun c => Nat.beq n (nT c) && (takeT P el (fsOf c 0 0 (fT c))).isSome
 | _ => none
def extOf (P : Program) (f : Nat) : Nat :=
 match P.funcs[f]? with
 | some fn => match fn.body.isNone && fn.origin == "", fn.name == "internal/abi.NoEscape", fn.name == "internal/bytealg.IndexByteString" with
  | true, true, _ => 1
  | true, false, true => 2
  | _, _, _ => 0
 | none => 0
def opExt (P : Program) (S : SS) (f : SV) (as : List SV) : Option Rs :=
 match f with
 | .fn (.func f) [] [] => match extOf P f, as with
  | 1, [x] => some ⟨[], [], x⟩
  | 2, [x, y] => match x.rt, y.rt with
   | some .str, some (.int .u8) => some ⟨[.f2 .ib x y], [], .va (.int .i64) S.k⟩
   | _, _ => none
  | _, _ => none
 | _ => none
def opIndexAddr (P : Program) (S : SS) (t : TypeId) (x i : SV) : Option Rs :=
 match i.rt with
 | some (.int k) => match elemSize P t with
  | some n => match x with
   | .sl id => match getH S.h id with
    | some (.rw _ c y) => match Nat.beq n (nT c) with
     | true => some ⟨[], idxN S.g (.lnL c) (.ixL c k) y i, .pe id i 0⟩
     | false => none
    | _ => none
   | .bs id m => match getH S.h id, i with
    | some (.bx _ _), .cs (.int _ (.ofNat j)) => match Nat.blt j m with
     | true => some ⟨[], [], .px id (j * n)⟩
     | false => none
    | _, _ => none
   | x => match liOf x with
    | some c => match Nat.beq n (nT c) with
     | true => some ⟨[.f2 (.ixL c k) x i], idxN S.g (.lnL c) (.ixL c k) x i, .ip c S.k 0⟩
     | false => none
    | none => match x.isNil, nilTC P t n with
     | true, some c => some ⟨[.f2 (.ixL c k) x i], [.f2 0 (.ixL c k) x i], .ip c S.k 0⟩
     | _, _ => none
  | none => match arrElem P t, cellsAt S x with
   | some (len, n), some _ => match i, x with
    | .cs (.int _ (.ofNat j)), x => match Nat.blt j len, shiftS (j * n) x with
     | true, some p => some ⟨[], [], p⟩
     | _, _ => none
    | i, .px id off => some ⟨[], nthN S.g len i, .pv id off i n⟩
    | _, _ => none
   | _, _ => none
 | _ => none
def opLoad (P : Program) (S : SS) (t : TypeId) (x : SV) : Option Rs :=
 match x with
 | .pe id i off => match getH S.h id, i.rt with
  | some (.rw _ c y), some (.int k) => match takeT P t ((fsOf c S.k 0 (fT c)).drop off), y.is1 (.li c) with
   | some v, true => some ⟨[.f2 (.ixL c k) y i], idxN S.g (.lnL c) (.ixL c k) y i, v⟩
   | _, _ => none
  | _, _ => none
 | .pv id off i 1 => match getH S.h id, i.rt with
  | some (.bx _ l), some (.int _) => match rtHead (l.drop off) with
   | some r => match rtAll r (l.drop off) && (r.one && scalar P t) with
    | true => some ⟨[.nth r (l.drop off) i], nthN S.g (l.drop off).length i, .va r S.k⟩
    | false => none
   | none => none
  | _, _ => none
 | x => match cellsAt S x with
  | some l => match takeT P t l with
   | some v => some ⟨[], [], v⟩
   | none => none
  | none => none
def opLen (P : Program) (S : SS) (t : TypeId) (x : SV) : Option Rs :=
 match x with
 | .cs (.slice none 0 0) => match isSlice P t with
  | true => some ⟨[], [], .cs (.int .i64 0)⟩
  | false => none
 | .cs (.string s) => match isStr P t with
  | true => some ⟨[], [], .cs (.int .i64 (ByteArray.size s : Int))⟩
  | false => none
 | .bs id n => match getH S.h id, isSlice P t with
  | some (.bx _ _), true => some ⟨[], [], .cs (.int .i64 (n : Int))⟩
  | _, _ => none
 | .sl id => match getH S.h id with
  | some (.rw _ c y) => match isSlice P t with
   | true => some ⟨[.f1 (.lnL c) y], [], .va (.int .i64) S.k⟩
   | false => none
  | _ => none
 | x => match x.rt with
  | some .str => match isStr P t with
   | true => some ⟨[.f1 .lnS x], [], .va (.int .i64) S.k⟩
   | false => none
  | some (.li c) => match isSlice P t with
   | true => some ⟨[.f1 (.lnL c) x], [], .va (.int .i64) S.k⟩
   | false => none
  | _ => match arrLen P t with
   | some n => some ⟨[], [], .cs (.int .i64 (n : Int))⟩
   | none => none
def optS (N : Nat) (S : SS) : Option Operand → Option (Option SV)
 | none => some none
 | some y => match (S.opv N y).rt with
  | some (.int _) => some (some (S.opv N y))
  | _ => none
def opSlice (P : Program) (N : Nat) (S : SS) (t : TypeId) (x : SV) (lo hi : Option Operand) : Option Rs :=
 match optS N S lo, optS N S hi with
 | some l, some h => match x.rt with
  | some .str => match isStr P t with
   | true => some ⟨[.sbS x l h], (match l, h with | none, none => [] | _, _ => [.sbS x l h]), .va .str S.k⟩
   | false => none
  | some (.li c) => match elemSize P t with
   | some n => match Nat.beq n (nT c) with
    | true => some ⟨[.sbL c x l h], (match l, h with | none, none => [] | _, _ => [.sbL c x l h]), .va (.li c) S.k⟩
    | false => none
   | none => none
  | _ => none
 | _, _ => none
def opConvR (P : Program) (S : SS) (src dst : TypeId) (id : Nat) : Option Rs :=
 match getH S.h id, P.underlying src with
 | some (.rw _ .u8 y), some (.slice el) => match P.underlying el, P.underlying dst with
  | some (.int .u8), some .string => some ⟨[.f1 .bs y], [], .va .str S.k⟩
  | _, _ => none
 | _, _ => none
def opConv (P : Program) (S : SS) (src dst : TypeId) (x : SV) : Option Rs :=
 match x with
 | .sl id => opConvR P S src dst id
 | x => match x.rt with
  | some (.int k) => match P.underlying src, P.underlying dst with
   | some _, some (.int k') => some ⟨[.f1 (.cv k k') x], [], .va (.int k') S.k⟩
   | _, _ => none
  | some (.li .u8) => match P.underlying src with
   | some (.slice el) => match P.underlying el, P.underlying dst with
    | some (.int .u8), some .string => some ⟨[.f1 .bs x], [], .va .str S.k⟩
    | _, _ => none
   | _ => none
  | _ => none
def opUn (S : SS) (op : UnOp) (x : SV) : Option Rs :=
 match op, x.rt with
 | .not, some .bool => some ⟨[.f1 .nt x], [], .va .bool S.k⟩
 | .neg, some (.int k) => some ⟨[.f1 (.ng k) x], [], .va (.int k) S.k⟩
 | .xor, some (.int k) => some ⟨[.f1 (.xn k) x], [], .va (.int k) S.k⟩
 | _, _ => none
def opBuild (P : Program) (N : Nat) (S : SS) (t : TypeId) (ps : List (Nat × Operand)) : Option Rs :=
 match places P t, zeroCells P t with
 | some pl, some zs => match zs.all Value.oneCell' && (ps.map fun p => (p.1, S.opv N p.2)).all fun p => p.2.cells.all (okC S.h) with
  | true => match sfill pl (zs.map .cs) (ps.map fun p => (p.1, S.opv N p.2)) with
   | some ds => some ⟨[], [], .ag ds⟩
   | none => none
  | false => none
 | _, _ => none
def opField (P : Program) (t : TypeId) (x : SV) (f : Nat) : Option Rs :=
 match x, fldPart P t f with
 | .ag l, some (off, none) => match l[off]? with
  | some v => some ⟨[], [], v⟩
  | none => none
 | .ag l, some (off, some n) => match Nat.ble (off + n) l.length with
  | true => some ⟨[], [], .ag ((l.drop off).take n)⟩
  | false => none
 | _, _ => none
def opMM (S : SS) (b : Builtin) (x y : SV) : Option Rs :=
 match x.rt, y.rt, b with
 | some (.int k), some (.int k'), .min => match decide (k = k') with
  | true => some ⟨[.f2 (.mn k) x y], [], .va (.int k) S.k⟩
  | false => none
 | some (.int k), some (.int k'), .max => match decide (k = k') with
  | true => some ⟨[.f2 (.mx k) x y], [], .va (.int k) S.k⟩
  | false => none
 | _, _, _ => none
def ptrT (P : Program) (t : TypeId) : Bool :=
 match P.underlying t with
 | some (.pointer e) => (P.info? e).isSome && match (P.info? e).map (fun i => decide (i.size = 0)) with
  | some false => true
  | _ => false
 | _ => false
def isBx (S : SS) (id : Nat) : Bool :=
 match getH S.h id with
 | some (.bx _ _) => true
 | _ => false
def notB (S : SS) (b : Bool) (g : SV) : Option Rs :=
 match g.rt, b with
 | some .bool, true => some ⟨[], [], g⟩
 | some .bool, false => some ⟨[.f1 .nt g], [], .va .bool S.k⟩
 | _, _ => none
def eqOf : BinOp → Option Bool
 | .eql => some true
 | .neq => some false
 | _ => none
def opPtr (P : Program) (S : SS) (op : BinOp) (tx : TypeId) (x y : SV) : Option Rs :=
 match ptrT P tx, eqOf op with
 | true, some b => match x, y with
  | .cs (.pointer none), .cs (.pointer none) => some ⟨[], [], .cs (.bool b)⟩
  | .px i o, .px j q => match (Nat.beq i j && Nat.beq o q) && isBx S i with
   | true => some ⟨[], [], .cs (.bool b)⟩
   | false => none
  | .gp g (some i) _, .cs (.pointer none) => match isBx S i with
   | true => notB S (!b) g
   | false => none
  | .gp g (some i) o, .px j q => match (Nat.beq i j && Nat.beq o q) && isBx S i with
   | true => notB S b g
   | false => none
  | _, _ => none
 | _, _ => none
def opConvP (P : Program) (S : SS) (src dst : TypeId) (x : SV) : Option Rs :=
 match x with
 | .px id off => match getH S.h id, P.underlying src, P.underlying dst with
  | some (.bx _ l), some (.pointer t), some .unsafePointer => match (P.info? t).map (fun i => decide (i.size = 0)), Nat.blt off l.length with
   | some false, true => some ⟨[], [], x⟩
   | _, _ => none
  | some (.bx bt l), some .unsafePointer, some (.pointer u) => match liesAt P P.depth bt (l.length / P.cellsOf bt) off u 1 && (P.info? u).isSome, Nat.blt off l.length with
   | true, true => some ⟨[], [], x⟩
   | _, _ => none
  | _, _, _ => none
 | _ => none
def vop (P : Program) (N : Nat) (S : SS) (o : Oper) : Option Rs :=
 match o.op with
 | .move x => some ⟨[], [], S.opv N x⟩
 | .assign x => some ⟨[], [], S.opv N x⟩
 | .pick c x y => opPick S (S.opv N c) (S.opv N x) (S.opv N y)
 | .extract x i => match S.opv N x with
  | .tp l => match l[i]? with
   | some v => some ⟨[], [], v⟩
   | none => none
  | _ => none
 | .nilCheck x => match isPtrS S (S.opv N x) with
  | true => some ⟨[], [], S.opv N x⟩
  | false => none
 | .fieldAddr t x f => match fldOff P t f, isPtrS S (S.opv N x) with
  | some k, true => match shiftS k (S.opv N x) with
   | some p => some ⟨[], [], p⟩
   | none => none
  | _, _ => none
 | .load t x => opLoad P S t (S.opv N x)
 | .field t x f => opField P t (S.opv N x) f
 | .indexAddr t x i => opIndexAddr P S t (S.opv N x) (S.opv N i)
 | .index t x i => opIndex P S t (S.opv N x) (S.opv N i)
 | .binOp op tx x y _ => match opBin P S op tx (S.opv N x) (S.opv N y) with
  | some r => some r
  | none => opPtr P S op tx (S.opv N x) (S.opv N y)
 | .unOp op _ x => opUn S op (S.opv N x)
 | .convert src dst x => match opConv P S src dst (S.opv N x) with
  | some r => some r
  | none => opConvP P S src dst (S.opv N x)
 | .build t ps => opBuild P N S t ps.toList
 | .makeFunc (.func f) p q => some ⟨[], [], .fn (.func f) (p.toList.map (S.opv N)) (q.toList.map (S.opv N))⟩
 | .slice t x lo hi none => opSlice P N S t (S.opv N x) lo hi
 | .call c => match c.callee, c.args.toList, c.argTypes.toList with
  | .builtin .len, [x], [t] => opLen P S t (S.opv N x)
  | .builtin b, [x, y], _ => opMM S b (S.opv N x) (S.opv N y)
  | .value f, l, _ => opExt P S (S.opv N f) (l.map (S.opv N))
  | _, _, _ => none
 | _ => none
section
variable {P : Program} {G : Glob} {o : Oper} {N B : Nat} {S : SS} {M : List Md}
theorem ungd_den {e : Env} {g : SV} {b : Bool} {x : SV} (h : g.get1 e .bool = b) : (x.ungd g b).den G e = x.den G e := by
 unfold SV.ungd
 split
 ·rename_i h' c v
  split
  ·rename_i hb
   simp only [Bool.and_eq_true, decide_eq_true_eq] at hb
   have := sameV_eq hb.1
   subst this
   obtain ⟨_, rfl⟩ := hb
   simp only [SV.den, h]
   cases c <;> rfl
  ·rfl
 ·rfl
theorem get_one {e : Env} {r : Rt} (h : r.one = true) (x : SV) : x.get e r = x.get1 e r := by
 cases r <;> first | rfl | cases h
theorem VOk.nil {v : SV} (h : ∀ e, (∀ c ∈ S.g, c.ok e) → VStep P G o (S.den G N B e) (v.den G e)) : VOk P G N B M o S ⟨[], [], v⟩ := fun e hf _ _ => h e hf
theorem opPick_ok {c x y : Operand} {r : Rs} (ho : o.op = .pick c x y) (h : opPick S (S.opv N c) (S.opv N x) (S.opv N y) = some r) : VOk P G N B M o S r := fun e hf hx hn => by
 unfold opPick at h
 split at h
 ·rename_i b hb
  cases h
  have hc : aval G (S.den G N B e) c = .rv (.v (.bool b)) := by rw [opv_den hf, hb]; rfl
  refine R_pick c x y ho hc ?_
  cases b <;> simp [opv_den hf]
 ·rename_i b hb _
  split at h
  ·rename_i hr
   cases h
   have hk := knownB_ok hb hf
   have hc : aval G (S.den G N B e) c = .rv (.v (.bool b)) := by rw [opv_den hf, rt_den hr, hk]; rfl
   refine R_pick c x y ho hc ?_
   cases b <;> simp [opv_den hf]
  ·cases h
 ·split at h
  ·rename_i hc
   split at h
   ·rename_i q _
    split at h
    ·rename_i hb
     cases h
     simp only [Bool.and_eq_true] at hb
     have hc' : aval G (S.den G N B e) c = .rv (.v (.bool ((S.opv N c).get1 e .bool))) := (opv_den hf c).trans (rt_den hc)
     refine (R_pick c x y ho hc' rfl).sub ?_
     have h0 : Env.at e S.k = _ := hx 0 _ rfl
     simp only [SV.den, h0, Ex.den, as_mk, opv_den hf, get_one hb.2.2]
     cases hcb : (S.opv N c).get1 e .bool with
     | true =>
      simp only [cond_true, if_true]
      rw [← ungd_den (G := G) (x := S.opv N x) hcb]
      exact is1_sub hb.1
     | false =>
      simp only [cond_false, Bool.false_eq_true, if_false]
      rw [← ungd_den (G := G) (x := S.opv N y) hcb]
      exact is1_sub hb.2.1
    ·cases h
   ·cases h
  ·cases h
theorem nthV_sub {e : Env} {r : Rt} : ∀ {l : List SV} {j : Nat} {x : SV}, rtAll r l = true → l[j]? = some x → Sub (x.den G e) (.rv (rvT r (nthV e r l j)))
 | [], _, _, _, h => by simp at h
 | [y], j, x, ha, h => by
  have hj : j = 0 := by
   have := (List.getElem?_eq_some_iff.1 h).1
   simp at this; exact this
  subst hj
  simp only [List.getElem?_cons_zero, Option.some.injEq] at h
  subst h
  simp only [rtAll, Bool.and_eq_true] at ha
  exact is1_sub ha.1
 | y :: z :: l, 0, x, ha, h => by
  simp only [List.getElem?_cons_zero, Option.some.injEq] at h
  subst h
  simp only [rtAll, Bool.and_eq_true] at ha
  exact is1_sub ha.1
 | y :: z :: l, j + 1, x, ha, h => by
  simp only [List.getElem?_cons_succ] at h
  simp only [rtAll, Bool.and_eq_true] at ha
  have := nthV_sub (e := e) (r := r) (l := z :: l) (j := j) (x := x) (by simp only [rtAll, Bool.and_eq_true]; exact ha.2) h
  have hb : Nat.beq (j + 1) 0 = false := rfl
  simp only [nthV, hb, cond_false, Nat.add_sub_cancel]
  exact this
theorem denL_get {e : Env} {l : List SV} {j : Nat} {x : SV} (h : l[j]? = some x) : (SV.denL G e l)[j]? = some (x.den G e) := by rw [denL_map, List.getElem?_map, h]; rfl
theorem opIndex_ok {t : TypeId} {x i : Operand} {r : Rs} (ho : o.op = .index t x i) (h : opIndex P S t (S.opv N x) (S.opv N i) = some r) : VOk P G N B M o S r := fun e hf hx hn => by
 unfold opIndex at h
 split at h
 ·rename_i l hl
  have hx' : aval G (S.den G N B e) x = .agg (SV.denL G e l) := by rw [opv_den hf, hl]; rfl
  split at h
  ·rename_i len el hu
   split at h
   ·rename_i hb hsz
    simp only [Bool.and_eq_true] at hb
    have hlen := Nat.eq_of_beq_eq_true hb.2
    split at h
    ·rename_i j hi
     split at h
     ·rename_i v hv
      cases h
      have hj := (List.getElem?_eq_some_iff.1 hv).1
      exact R_indexArr j ho hu hb.1 hsz (by rw [opv_den hf, hi]; rfl) hx' (denL_get hv) (by omega)
     ·cases h
    ·split at h
     ·rename_i r' hi hr
      split at h
      ·rename_i ha
       cases h
       simp only [Bool.and_eq_true] at ha
       have hn0 : 0 ≤ intD ((S.opv N i).dyn e) ∧ intD ((S.opv N i).dyn e) < (l.length : Int) := nthN_ok hf hn
       obtain ⟨j, hj⟩ : ∃ j : Nat, intD ((S.opv N i).dyn e) = (j : Int) := ⟨_, (Int.toNat_of_nonneg hn0.1).symm⟩
       have hjl : j < l.length := by omega
       have hi' : aval G (S.den G N B e) i = vi (j : Int) := by
        rw [opv_den hf, rt_int hi, ← rt_intD hi, hj]
       have hv : l[j]? = some l[j] := List.getElem?_eq_getElem hjl
       refine (R_indexArr j ho hu hb.1 hsz hi' hx' (denL_get hv) (by omega)).sub ?_
       have h0 : Env.at e S.k = _ := hx 0 _ rfl
       simp only [SV.den, h0, Ex.den, as_mk, hj, Int.toNat_natCast]
       exact nthV_sub ha.1 hv
      ·cases h
     ·cases h
   ·cases h
  ·cases h
 ·split at h
  ·rename_i k h1 h2 ht
   cases h
   have hx' : aval G (S.den G N B e) x = _ := (opv_den hf x).trans (rt_den h1)
   have hi' : aval G (S.den G N B e) i = _ := (opv_den hf i).trans (rt_int h2)
   obtain ⟨g1, g2⟩ := idxN_S hf h2 hn
   exact V2 (f := .ixS k) (hx 0 _ rfl) (R_indexB _ k _ ho (isStr_spec ht) hi' hx' g1 g2)
  ·cases h
theorem ip_den {e : Env} {c : TC} {i : Nat} {x : tbl c} (h : Env.at e i = ⟨.st c, x⟩) : (SV.ip c i 0).den G e = .rv (.ptr (cT c x)) := by
 simp only [SV.den, h, as_mk, List.drop_zero]
theorem getD_at {c : TC} {l : List (tbl c)} {z : Int} (h0 : 0 ≤ z) (h1 : z < (l.length : Int)) : l[z.toNat]? = some (l.getD z.toNat (dT c)) := by
 have : z.toNat < l.length := by omega
 rw [List.getD_eq_getElem?_getD, List.getElem?_eq_getElem this]
 rfl
theorem liOf_den {e : Env} {x : SV} {c : TC} (h : liOf x = some c) : x.den G e = .rv (.li c (x.get1 e (.li c))) ∧ x.rt = some (.li c) := by
 unfold liOf at h
 split at h
 ·rename_i c' hr
  cases h
  exact ⟨rt_den hr, hr⟩
 ·cases h
theorem V_lenB {s : St} {x : Operand} {t : TypeId} (ho : o.op = .call { callee := .builtin .len, args := #[x], argTypes := #[t] }) (ht : isSlice P t = true) {id n : Nat} (hx : aval G s x = .bsl id n) {bt : TypeId} {cs : List AV} (hid : hget s.heap id = some (.box bt cs)) : VStep P G o s (.rv (.v (.int .i64 (n : Int)))) :=
 fun E a w β ro hr => by
  have h := hr.eval x
  rw [hx] at h
  generalize hc : a.eval x = c at h
  cases h with
  | bsl _ _ _ hl hp =>
   obtain ⟨b, _, rfl⟩ := hp _ _ hid
   unfold isSlice at ht
   split at ht
   ·rename_i e hu
    refine ⟨.int .i64 n, ?_, .ofV rfl⟩
    simp [execOp, ho, resolve, invoke, builtin, hc, Builtin.len_, run_underlying hu, goInt]
   ·cases ht
theorem V_ixB {s : St} {x y : Operand} {t : TypeId} (ho : o.op = .indexAddr t x y) {sz : Nat} (ht : elemSize P t = some sz) {k : IntKind} {j n : Nat} (hy : aval G s y = .rv (.v (.int k (j : Int)))) (hj : j < n) {id : Nat} (hx : aval G s x = .bsl id n) {bt : TypeId} {cs : List AV} (hid : hget s.heap id = some (.box bt cs)) : VStep P G o s (.ptr id (j * sz)) :=
 fun E a w β ro hr => by
  have h := hr.eval x
  rw [hx] at h
  generalize hc : a.eval x = c at h
  cases h with
  | bsl _ _ _ hl hp =>
   obtain ⟨b, hb, rfl⟩ := hp _ _ hid
   obtain ⟨e, hu, hsz⟩ := elemSize_run ht
   refine ⟨.pointer (some ⟨b, j * sz, none⟩), ?_, .ptr _ _ _ hl fun t' cs' _ => ⟨b, hb, rfl⟩⟩
   by_cases hz : j * sz = 0 <;> simp [execOp, ho, hc, hr.evalV hy, Instr.indexAt, asIntOf, run_underlying hu, hj, hsz, Addr.add, hz]
theorem ib_run (bs : ByteArray) (c : Int) : Extern.BytealgIndexByte.indexByte #[.string bs, .int .u8 c] = pure (.int .i64 (ibI bs c)) := by
  have hi : Extern.BytealgIndexByte.indexByte #[.string bs, .int .u8 c] = (match (List.range bs.size).find? fun i => bs[i]! == c.toNat.toUInt8 with
      | some i => pure (goInt i)
      | none => pure (goInt (-1))) := rfl
  rw [hi]
  unfold ibI
  cases List.find? (fun i => bs[i]! == c.toNat.toUInt8) (List.range bs.size) <;> rfl
theorem extFn {a b : String} (h : (a == b) = true) : a = b := by simpa using h
theorem opExt_ok {f : Operand} {as : List Operand} {args : Array Operand} {ts : Array TypeId} {r : Rs} (ho : o.op = .call { callee := .value f, args := args, argTypes := ts }) (ha : args.toList = as) (h : opExt P S (S.opv N f) (as.map (S.opv N)) = some r) : VOk P G N B M o S r := fun e hf hx hn => by
 unfold opExt at h
 split at h
 rotate_left
 ·cases h
 rename_i fid hfv
 have hfd : aval G (S.den G N B e) f = .fn (.func fid) [] [] := by rw [opv_den hf, hfv]; rfl
 have start : ∀ {ev : Array Value → Sem Value} {fn : Func}, P.funcs[fid]? = some fn → fn.body.isNone = true → (fn.name == "runtime.NumGoroutine") = false → Extern.findNext fn = none → Extern.find fn = some ev → ∀ E a w β ro, RelAt E G (S.den G N B e) a w β ro → (execOp a.eval o).run P w = ((ev (args.map a.eval)).run P w).andThen fun v w' => .ok (.value v) w' := fun {ev fn} h1 h2 h3 h4 h5 E a w β ro hr => by
  have hc := hr.eval f
  rw [hfd] at hc
  generalize he : a.eval f = fv at hc
  cases hc with
  | fn _ _ _ c d g1 g2 _ _ =>
   have hc0 : c = #[] := by simpa using g1
   have hd0 : d = #[] := by simpa using g2
   subst hc0 hd0
   simp only [execOp, ho, resolve, he, Deferred.ofValue, Sem.run_bind, Sem.run_pure, Result.andThen_ok, invoke, Array.empty_append, Array.append_empty]
   exact run_callFunc_extern h1 h3 h2 h4 h5 _ w
 split at h
 ·rename_i x hk hl
  cases h
  unfold extOf at hk
  split at hk
  rotate_left
  ·cases hk
  rename_i fn hfn
  split at hk
  ·rename_i _ hbo hname
   simp only [Bool.and_eq_true] at hbo
   obtain ⟨hb, hoo⟩ := hbo
   have hn := extFn hname
   have hoo := extFn hoo
   obtain ⟨y, rfl⟩ : ∃ y, as = [y] := by
    match as, hl with
    | [y], _ => exact ⟨y, rfl⟩
   simp only [List.map_cons, List.map_nil, List.cons.injEq, and_true] at hl
   have hargs : args = #[y] := by rw [← Array.toList_inj]; exact ha
   intro E a w β ro hr
   refine ⟨a.eval y, ?_, by have := hr.eval y; rw [opv_den hf, hl] at this; exact this⟩
   rw [start (ev := Extern.AbiNoEscape.same) hfn hb (by rw [hn]; rfl) (by unfold Extern.findNext; simp only [hn, hoo]; rfl) (by unfold Extern.find; simp only [hn, hoo]; rfl) E a w β ro hr, hargs]
   have hm : (#[y] : Array Operand).map a.eval = #[a.eval y] := by simp
   rw [hm]
   rfl
  ·cases hk
  ·cases hk
 ·rename_i x z hk hl
  split at h
  ·rename_i g1 g2
   cases h
   unfold extOf at hk
   split at hk
   rotate_left
   ·cases hk
   rename_i fn hfn
   split at hk
   ·cases hk
   ·rename_i hbo _ hname
    simp only [Bool.and_eq_true] at hbo
    obtain ⟨hb, hoo⟩ := hbo
    have hn := extFn hname
    have hoo := extFn hoo
    obtain ⟨y, u, rfl⟩ : ∃ y u, as = [y, u] := by
     match as, hl with
     | [y, u], _ => exact ⟨y, u, rfl⟩
    simp only [List.map_cons, List.map_nil, List.cons.injEq, and_true] at hl
    have hargs : args = #[y, u] := by rw [← Array.toList_inj]; exact ha
    have hy : aval G (S.den G N B e) y = .rv (.v (.string (x.get1 e .str))) := by rw [opv_den hf, hl.1]; exact rt_den g1
    have hu : aval G (S.den G N B e) u = .rv (.v (.int .u8 (z.get1 e (.int .u8)))) := by rw [opv_den hf, hl.2]; exact rt_den g2
    refine V2 (f := .ib) (hx 0 _ rfl) fun E a w β ro hr => ?_
    refine ⟨.int .i64 (ibI (x.get1 e .str) (z.get1 e (.int .u8))), ?_, .ofV rfl⟩
    rw [start (ev := Extern.BytealgIndexByte.indexByte) hfn hb (by rw [hn]; rfl) (by unfold Extern.findNext; simp only [hn, hoo]; rfl) (by unfold Extern.find; simp only [hn, hoo]; rfl) E a w β ro hr, hargs]
    have hm : (#[y, u] : Array Operand).map a.eval = #[.string (x.get1 e .str), .int .u8 (z.get1 e (.int .u8))] := by simp [hr.evalV hy, hr.evalV hu]
    rw [hm]
    rw [ib_run]
    rfl
   ·cases hk
  ·cases h
 ·cases h
theorem opIndexAddr_ok {t : TypeId} {x i : Operand} {r : Rs} (ho : o.op = .indexAddr t x i) (h : opIndexAddr P S t (S.opv N x) (S.opv N i) = some r) : VOk P G N B M o S r := fun e hf hx hn => by
 unfold opIndexAddr at h
 split at h
 ·rename_i k hi
  have hi' : aval G (S.den G N B e) i = _ := (opv_den hf i).trans (rt_int hi)
  split at h
  ·rename_i n hnz
   split at h
   ·rename_i id hid
    split at h
    ·rename_i t' c y hg
     split at h
     ·rename_i hb
      cases h
      have hb := Nat.eq_of_beq_eq_true hb
      obtain ⟨g1, g2⟩ := idxN_L hf hi hn
      obtain ⟨j, hj⟩ : ∃ j : Nat, (S.opv N i).get1 e (.int k) = (j : Int) := ⟨_, (Int.toNat_of_nonneg g1).symm⟩
      rw [hj] at hi' g2
      have g2 : (j : Int) < ((List.length (y.get1 e (.li c)) : Nat) : Int) := g2
      have := R_indexAddr t x i ho hnz hi' (p := .eptr id j 0) (by
       rw [opv_den hf, hid]
       simp only [SV.den, aelem, SS.den, denH_get, hg, Option.map_some, SO.den]
       rw [if_pos ⟨hb.symm, by rw [List.length_map]; omega⟩])
      simp only [SV.den, rt_intD hi, hj, Int.toNat_natCast]
      exact this
     ·cases h
    ·cases h
   ·rename_i id m hid
    split at h
    ·rename_i bt l k' j hg hij
     split at h
     ·rename_i hjm
      cases h
      exact V_ixB ho hnz (k := k') (j := j) (by rw [opv_den hf, hij]; rfl) (blt_lt hjm) (id := id) (bt := bt) (cs := SV.denL G e l) (by rw [opv_den hf, hid]; rfl) (by simp only [SS.den, denH_get, hg, Option.map_some, SO.den])
     ·cases h
    ·cases h
   ·split at h
    ·rename_i c hc
     split at h
     ·rename_i hb
      cases h
      have hb := Nat.eq_of_beq_eq_true hb
      rw [hb] at hnz
      obtain ⟨hd, hrt⟩ := liOf_den (G := G) (e := e) hc
      obtain ⟨g1, g2⟩ := idxN_L hf hi hn
      have := (R_indexT c _ k _ ho hnz hi' ((opv_den hf x).trans hd) g1 g2).v
      have h0 : Env.at e S.k = _ := hx 0 _ rfl
      have h1 := ip_den (G := G) (x := List.getD ((S.opv N x).get1 e (.li c)) (Int.toNat ((S.opv N i).get1 e (.int k))) (dT c)) h0
      show VStep P G o _ ((SV.ip c S.k 0).den G e)
      rw [h1]
      exact this
     ·cases h
    ·split at h
     ·rename_i c hnil _
      cases h
      have hn0 := hn _ (List.mem_singleton.2 rfl)
      have hz : (S.opv N x).get1 e (.li c) = [] := by
       unfold SV.isNil at hnil
       split at hnil
       ·rename_i hq
        simp only [hq, SV.get1, SV.dyn1, as_mk]
       ·cases hnil
      simp only [Nd.ok, F2.need, hz] at hn0
      have h2 : (S.opv N i).get1 e (.int k) < ((List.length ([] : List (tbl c)) : Nat) : Int) := hn0.2
      have h3 : 0 ≤ (S.opv N i).get1 e (.int k) := hn0.1
      exact absurd (Int.lt_of_le_of_lt h3 h2) (Int.lt_irrefl _)
     ·cases h
  ·split at h
   ·rename_i len n l ha hl
    have hcs := cellsAt_den (G := G) (N := N) (B := B) (e := e) hl
    rw [← opv_den (B := B) hf] at hcs
    split at h
    ·rename_i k' j hj
     split at h
     ·rename_i p hjl hp
      cases h
      have hjl := blt_lt hjl
      refine R_indexAddr_arr t x i ho ha (k := k') (j := j) (by rw [opv_den hf, hj]; rfl) hjl hcs ?_
      have hs := shiftS_den (G := G) (e := e) hp
      rw [← hs, ← opv_den (N := N) (B := B) hf]
      revert hcs
      cases aval G (S.den G N B e) x <;> intro hcs <;> first | (simp [acells] at hcs; done) | skip
      all_goals rename_i y
      ·cases y <;> first | (simp [acells] at hcs; done) | rfl
      ·rfl
      ·rfl
     ·cases h
    ·rename_i id off hid _
     cases h
     have hn0 : 0 ≤ intD ((S.opv N i).dyn e) ∧ intD ((S.opv N i).dyn e) < (len : Int) := nthN_ok hf hn
     obtain ⟨j, hj⟩ : ∃ j : Nat, intD ((S.opv N i).dyn e) = (j : Int) := ⟨_, (Int.toNat_of_nonneg hn0.1).symm⟩
     rw [← rt_intD hi, hj] at hi'
     refine R_indexAddr_arr t x i ho ha hi' (by omega) hcs ?_
     rw [opv_den hf, hid]
     simp only [SV.den, ashift, hj, Int.toNat_natCast]
    ·cases h
   ·cases h
 ·cases h
theorem opLoad_ok {t : TypeId} {x : Operand} {r : Rs} (ho : o.op = .load t x) (h : opLoad P S t (S.opv N x) = some r) : VOk P G N B M o S r := fun e hf hx hn => by
 unfold opLoad at h
 split at h
 ·rename_i id i off hp
  split at h
  ·rename_i t' c y k hg hi
   split at h
   ·rename_i v hv hy
    cases h
    obtain ⟨g1, g2⟩ := idxN_L hf hi hn
    have h0 : Env.at e S.k = ⟨.st c, List.getD (y.get1 e (.li c)) (i.get1 e (.int k)).toNat (dT c)⟩ := hx 0 _ rfl
    refine load_den ho ?_ hv
    rw [opv_den hf, hp]
    simp only [SV.den, acells, SS.den, denH_get, hg, Option.map_some, SO.den, rt_intD hi]
    rw [List.getElem?_map, getD_at g1 g2]
    simp only [Option.map_some, Option.some.injEq]
    rw [denL_drop, fs_den, h0, as_mk, List.map_drop]
   ·cases h
  ·cases h
 ·rename_i id off i hp
  split at h
  ·rename_i t' l k hg hi
   split at h
   ·rename_i q hq
    split at h
    ·rename_i ha
     cases h
     simp only [Bool.and_eq_true] at ha
     have hn0 : 0 ≤ intD (i.dyn e) ∧ intD (i.dyn e) < ((l.drop off).length : Int) := nthN_ok hf hn
     obtain ⟨j, hj⟩ : ∃ j : Nat, intD (i.dyn e) = (j : Int) := ⟨_, (Int.toNat_of_nonneg hn0.1).symm⟩
     have hjl : j < (l.drop off).length := by omega
     have hv : (l.drop off)[j]? = some (l.drop off)[j] := List.getElem?_eq_getElem hjl
     have hd : (l.drop off).drop j = (l.drop off)[j] :: (l.drop off).drop (j + 1) := List.drop_eq_getElem_cons hjl
     have := R_load t x ho ha.2.2 (y := ((l.drop off)[j]).den G e) (cs := SV.denL G e ((l.drop off).drop (j + 1))) (s := S.den G N B e) (G := G) (by
      rw [opv_den hf, hp]
      simp only [SV.den, acells, SS.den, denH_get, hg, Option.map_some, SO.den, hj, Int.toNat_natCast, Nat.mul_one, Option.some.injEq]
      rw [← denL_drop, ← List.drop_drop, hd]
      rfl)
     refine this.sub ?_
     have h0 : Env.at e S.k = _ := hx 0 _ rfl
     simp only [SV.den, h0, Ex.den, as_mk, hj, Int.toNat_natCast]
     exact nthV_sub ha.1 hv
    ·cases h
   ·cases h
  ·cases h
 ·split at h
  ·rename_i l hl
   split at h
   ·rename_i v hv
    cases h
    refine load_den ho ?_ hv
    rw [opv_den hf]
    exact cellsAt_den hl
   ·cases h
  ·cases h
theorem opLen_ok {t : TypeId} {x : Operand} {r : Rs} (ho : o.op = .call { callee := .builtin .len, args := #[x], argTypes := #[t] }) (h : opLen P S t (S.opv N x) = some r) : VOk P G N B M o S r := fun e hf hx hn => by
 unfold opLen at h
 split at h
 ·rename_i hp
  split at h
  ·rename_i ht
   cases h
   exact R_len x t ho ht (m := 0) (by rw [opv_den hf, hp]; rfl)
  ·cases h
 ·rename_i b hp
  split at h
  ·rename_i ht
   cases h
   exact R_len_str x t ho (isStr_spec ht) (by rw [opv_den hf, hp]; rfl)
  ·cases h
 ·rename_i id n hp
  split at h
  ·rename_i bt l hg ht
   cases h
   exact V_lenB ho ht (id := id) (bt := bt) (cs := SV.denL G e l) (by rw [opv_den hf, hp]; rfl) (by simp only [SS.den, denH_get, hg, Option.map_some, SO.den])
  ·cases h
 ·rename_i id hp
  split at h
  ·rename_i t' c y hg
   split at h
   ·rename_i ht
    cases h
    refine V1 (f := .lnL c) (hx 0 _ rfl) (R_len x t ho ht (m := List.length (y.get1 e (.li c))) ?_)
    rw [opv_den hf, hp]
    simp only [SV.den, alen, SS.den, denH_get, hg, Option.map_some, SO.den, List.length_map]
   ·cases h
  ·cases h
 ·split at h
  ·rename_i hr
   split at h
   ·rename_i ht
    cases h
    exact V1 (f := .lnS) (hx 0 _ rfl) (R_len_str x t ho (isStr_spec ht) ((opv_den hf x).trans (rt_den hr)))
   ·cases h
  ·rename_i c hr
   split at h
   ·rename_i ht
    cases h
    exact V1 (f := .lnL c) (hx 0 _ rfl) (R_lenT c _ ho ht ((opv_den hf x).trans (rt_den hr)))
   ·cases h
  ·split at h
   ·rename_i n hn'
    cases h
    exact R_len_arr x t ho hn'
   ·cases h
theorem optS_bnd {e : Env} (hf : ∀ c ∈ S.g, c.ok e) {lo : Option Operand} {l : Option SV} (h : optS N S lo = some l) : bnd G (S.den G N B e) lo (optI e l) := by
 unfold optS at h
 split at h
 ·cases h; trivial
 ·split at h
  ·rename_i y k hr
   cases h
   exact ⟨k, by rw [opv_den hf, rt_int hr, rt_intD hr]⟩
  ·cases h
theorem opSlice_ok {t : TypeId} {x : Operand} {lo hi : Option Operand} {r : Rs} (ho : o.op = .slice t x lo hi none) (h : opSlice P N S t (S.opv N x) lo hi = some r) : VOk P G N B M o S r := fun e hf hx hn => by
 unfold opSlice at h
 split at h
 ·rename_i l h' hl hh
  split at h
  ·rename_i hr
   split at h
   ·rename_i ht
    cases h
    have h0 : Env.at e S.k = _ := hx 0 _ rfl
    simp only [SV.den, h0, Ex.den, as_mk]
    refine V_sbS _ ho (isStr_spec ht) ((opv_den hf x).trans (rt_den hr)) (optS_bnd hf hl) (optS_bnd hf hh) ?_
    cases l <;> cases h' <;> first | trivial | exact hn _ (List.mem_singleton.2 rfl)
   ·cases h
  ·rename_i c hr
   split at h
   ·rename_i n hnz
    split at h
    ·rename_i hb
     cases h
     rw [Nat.eq_of_beq_eq_true hb] at hnz
     have h0 : Env.at e S.k = _ := hx 0 _ rfl
     simp only [SV.den, h0, Ex.den, as_mk]
     refine (V_sbL c _ ho hnz ((opv_den hf x).trans (rt_den hr)) (optS_bnd hf hl) (optS_bnd hf hh) ?_).v
     cases l <;> cases h' <;> first | trivial | exact hn _ (List.mem_singleton.2 rfl)
    ·cases h
   ·cases h
  ·cases h
 ·cases h
theorem opConv_ok {src dst : TypeId} {x : Operand} {r : Rs} (ho : o.op = .convert src dst x) (h : opConv P S src dst (S.opv N x) = some r) : VOk P G N B M o S r := fun e hf hx hn => by
 unfold opConv at h
 split at h
 ·rename_i id hid
  unfold opConvR at h
  split at h
  ·rename_i t' y el hg hs
   split at h
   ·rename_i hu hd
    cases h
    refine V1 (f := .bs) (hx 0 _ rfl) (R_string src dst el x ho hs hu hd (l := y.get1 e (.li .u8)) ?_)
    rw [opv_den hf, hid]
    simp only [SV.den, aelems, SS.den, denH_get, hg, Option.map_some, SO.den]
    rfl
   ·cases h
  ·cases h
 rename_i hns
 split at h
 ·rename_i k hr
  split at h
  ·rename_i hs hd
   cases h
   exact V1 (f := .cv k _) (hx 0 _ rfl) (R_convert_int src dst x ho (by rw [hs]; rfl) hd ((opv_den hf x).trans (rt_int hr)))
  ·cases h
 ·rename_i hr
  split at h
  ·rename_i el hs
   split at h
   ·rename_i hu hd
    cases h
    refine V1 (f := .bs) (hx 0 _ rfl) (R_string src dst el x ho hs hu hd (l := (S.opv N x).get1 e (.li .u8)) ?_)
    rw [opv_den hf, rt_den hr]
    rfl
   ·cases h
  ·cases h
 ·cases h
theorem opUn_ok {op : UnOp} {t : TypeId} {x : Operand} {r : Rs} (ho : o.op = .unOp op t x) (h : opUn S op (S.opv N x) = some r) : VOk P G N B M o S r := fun e hf hx hn => by
 unfold opUn at h
 split at h
 ·rename_i hr
  cases h
  exact V1 (f := .nt) (hx 0 _ rfl) (R_not t x ho ((opv_den hf x).trans (rt_den hr)))
 ·rename_i k hr
  cases h
  exact V1 (f := .ng k) (hx 0 _ rfl) (R_neg t x ho ((opv_den hf x).trans (rt_int hr)))
 ·rename_i k hr
  cases h
  have hx' : aval G (S.den G N B e) x = _ := (opv_den hf x).trans (rt_int hr)
  exact V1 (f := .xn k) (hx 0 _ rfl) fun _ a' w β ro h => ⟨_, by simp [execOp, ho, h.evalV hx', Op.unary, Op.intBits, F1.den, Av.xorI], .ofV rfl⟩
 ·cases h
theorem opBuild_ok {t : TypeId} {ps : Array (Nat × Operand)} {r : Rs} (ho : o.op = .build t ps) (h : opBuild P N S t ps.toList = some r) : VOk P G N B M o S r := fun e hf hx hn => by
 unfold opBuild at h
 split at h
 ·rename_i pl zs hpl hz
  split at h
  ·rename_i hb
   simp only [Bool.and_eq_true] at hb
   split at h
   ·rename_i ds hd
    cases h
    have h1 := sfill_den (G := G) (e := e) hb.2 hd
    have h2 : SV.denL G e (zs.map .cs) = zs.map fun z => .rv (.v z) := by rw [denL_map, List.map_map]; rfl
    rw [h2] at h1
    have h3 : (ps.toList.map fun p => (p.1, aval G (S.den G N B e) p.2)) = (ps.toList.map fun p => (p.1, S.opv N p.2)).map fun p => (p.1, p.2.den G e) := by
     rw [List.map_map]
     exact List.map_congr_left fun p _ => by simp [opv_den hf]
    refine R_build t ps ho hpl hz hb.1 h3 ?_ h1
    rw [List.all_map]
    refine List.all_eq_true.2 fun p hp => ?_
    have := List.all_eq_true.1 hb.2 p hp
    simp only [Function.comp]
    rw [vcells_den this]
    exact okCs_den this
   ·cases h
  ·cases h
 ·cases h
theorem opField_ok {t : TypeId} {x : Operand} {f : Nat} {r : Rs} (ho : o.op = .field t x f) (h : opField P t (S.opv N x) f = some r) : VOk P G N B M o S r := fun e hf hx hn => by
 unfold opField at h
 split at h
 ·rename_i l off hl hp
  split at h
  ·rename_i v hv
   cases h
   exact R_field t x f ho hp (by rw [opv_den hf, hl]; rfl) (denL_get hv)
  ·cases h
 ·rename_i l off n hl hp
  split at h
  ·rename_i hb
   cases h
   have := R_field_agg t x f ho hp (s := S.den G N B e) (G := G) (cs := SV.denL G e l) (by rw [opv_den hf, hl]; rfl) (by rw [denL_len]; exact Nat.le_of_ble_eq_true hb)
   simp only [SV.den]
   rw [denL_map, List.map_take, List.map_drop, ← denL_map]
   exact this
  ·cases h
 ·cases h
theorem opMM_ok {b : Builtin} {x y : Operand} {ts : Array TypeId} {r : Rs} (ho : o.op = .call { callee := .builtin b, args := #[x, y], argTypes := ts }) (h : opMM S b (S.opv N x) (S.opv N y) = some r) : VOk P G N B M o S r := fun e hf hx hn => by
 unfold opMM at h
 split at h
 ·rename_i k k' h1 h2
  split at h
  ·rename_i hk
   cases h
   have hk := of_decide_eq_true hk
   subst hk
   exact V2 (f := .mn k) (hx 0 _ rfl) (R_min2 x y ts ho ((opv_den hf x).trans (rt_int h1)) ((opv_den hf y).trans (rt_int h2)))
  ·cases h
 ·rename_i k k' h1 h2
  split at h
  ·rename_i hk
   cases h
   have hk := of_decide_eq_true hk
   subst hk
   exact V2 (f := .mx k) (hx 0 _ rfl) (R_max2 x y ts ho ((opv_den hf x).trans (rt_int h1)) ((opv_den hf y).trans (rt_int h2)))
  ·cases h
 ·cases h
theorem ptrT_spec {t : TypeId} (h : ptrT P t = true) : ∃ te i, P.underlying t = some (.pointer te) ∧ P.info? te = some i ∧ i.size ≠ 0 := by
 unfold ptrT at h
 split at h
 ·rename_i e hu
  cases hi : P.info? e with
  | none => rw [hi] at h; cases h
  | some i =>
   rw [hi] at h
   simp only [Option.isSome_some, Bool.true_and, Option.map_some] at h
   refine ⟨e, i, hu, hi, fun hz => ?_⟩
   rw [hz] at h
   cases h
 ·cases h
theorem isBx_spec {id : Nat} {e : Env} (h : isBx S id = true) : ∃ t cs, hget (S.den G N B e).heap id = some (.box t cs) := by
 unfold isBx at h
 split at h
 ·rename_i t l hg
  exact ⟨t, SV.denL G e l, by simp only [SS.den, denH_get, hg, Option.map_some, SO.den]⟩
 ·cases h
theorem notB_ok {s : St} {b : Bool} {g : SV} {r : Rs} {e : Env} (h : notB S b g = some r) (hx : ∀ (j : Nat) (x : Ex), r.xs[j]? = some x → Env.at e (S.k + j) = x.den M e) (hs : VStep P G o s (.rv (.v (.bool (bif b then g.get1 e .bool else !(g.get1 e .bool)))))) : VStep P G o s (r.v.den G e) := by
 unfold notB at h
 split at h
 ·rename_i hr
  cases h
  have := rt_den (G := G) (e := e) hr
  show VStep P G o s (g.den G e)
  rw [this]
  exact hs
 ·rename_i hr
  cases h
  exact V1 (f := .nt) (hx 0 _ rfl) hs
 ·cases h
theorem eq_same {tp te : TypeId} {j : TypeInfo} (w : World) (a : Addr) (hp : P.underlying tp = some (.pointer te)) (hte : P.info? te = some j) : (Op.equal tp (.pointer (some a)) (.pointer (some a))).run P w = .ok true w := by
 have h : ∀ d : Nat, (Op.equalIn (d + 1) tp (.pointer (some a)) (.pointer (some a))).run P w = .ok true w := fun d => by
  simp [Op.equalIn, run_underlying hp, sizeOf, typeInfo, hte, run_sameAddr_same]
 exact h 9999
theorem eq_nil {tp te : TypeId} (w : World) (q : Option Addr) (hp : P.underlying tp = some (.pointer te)) : (Op.equal tp (.pointer none) (.pointer q)).run P w = .ok q.isNone w := by
 have h : ∀ d : Nat, (Op.equalIn (d + 1) tp (.pointer none) (.pointer q)).run P w = .ok q.isNone w := fun d => by
  cases q <;> simp [Op.equalIn, run_underlying hp]
 exact h 9999
theorem V_ptrs {s : St} {op : BinOp} {tx ty : TypeId} {x y : Operand} {b c : Bool} (ho : o.op = .binOp op tx x y ty) (ht : ptrT P tx = true) (hb : eqOf op = some b)
    (h : ∀ E a w β ro, RelAt E G s a w β ro → ∃ p q, a.eval x = .pointer p ∧ a.eval y = .pointer q ∧ ((q = none ∧ c = p.isNone) ∨ (p = none ∧ c = q.isNone) ∨ (∃ ad, p = some ad ∧ q = some ad ∧ c = true))) : VStep P G o s (.rv (.v (.bool (bif b then c else !c)))) :=
  fun E a w β ro hr => by
    obtain ⟨te, i, hu, hi, hsz⟩ := ptrT_spec ht
    obtain ⟨p, q, h1, h2, h3⟩ := h E a w β ro hr
    refine ⟨.bool (bif b then c else !c), ?_, .ofV rfl⟩
    have hu' : P.underlying tx = some (.pointer (P.pointee tx)) := by rw [hu]; simp [Program.pointee, hu]
    have heq : (Op.equal tx (.pointer p) (.pointer q)).run P w = .ok c w := by
      rcases h3 with ⟨rfl, rfl⟩ | ⟨rfl, rfl⟩ | ⟨ad, rfl, rfl, rfl⟩
      · exact run_equal_pointer_nil w tx p hu'
      · exact eq_nil w q hu
      · exact eq_same w ad hu hi
    unfold eqOf at hb
    split at hb
    · cases hb
      have : (binOp .eql tx (.pointer p) (.pointer q)).run P w = .ok (.bool c) w := by
        simp only [binOp]
        simp [heq]
      simp [execOp, ho, h1, h2, eqGuard_at_pointer, this]
    · cases hb
      have : (binOp .neq tx (.pointer p) (.pointer q)).run P w = .ok (.bool (!c)) w := by
        simp only [binOp]
        simp [heq]
      simp [execOp, ho, h1, h2, eqGuard_at_pointer, this]
    · cases hb
theorem nil_eval {E : Entry} {s : St} {a : Act} {w : World} {β : Nat → Value} {ro : Nat → Prop} {x : Operand} (hr : RelAt E G s a w β ro) (hx : aval G s x = .rv (.v (.pointer none))) : a.eval x = .pointer none := hr.evalV hx
theorem px_eval {E : Entry} {s : St} {a : Act} {w : World} {β : Nat → Value} {ro : Nat → Prop} {x : Operand} {id off : Nat} {t : TypeId} {cs : List AV} (hr : RelAt E G s a w β ro) (hx : aval G s x = .ptr id off) (hg : hget s.heap id = some (.box t cs)) :
    ∃ b, β id = .pointer (some ⟨b, 0, none⟩) ∧ a.eval x = .pointer (some ⟨b, off, none⟩) := by
  have h := hr.eval x
  rw [hx] at h
  generalize hc : a.eval x = c at h
  cases h with
  | ptr _ _ _ hl hp => exact hp _ _ hg
theorem opPtr_ok {op : BinOp} {tx ty : TypeId} {x y : Operand} {r : Rs} (ho : o.op = .binOp op tx x y ty) (h : opPtr P S op tx (S.opv N x) (S.opv N y) = some r) : VOk P G N B M o S r := fun e hf hx hn => by
 unfold opPtr at h
 split at h
 rotate_left
 ·cases h
 rename_i b ht hb
 split at h
 ·rename_i h1 h2
  cases h
  have := V_ptrs (G := G) (s := S.den G N B e) (c := true) ho ht hb fun E a w β ro hr => ⟨none, none, nil_eval hr (by rw [opv_den hf, h1]; rfl), nil_eval hr (by rw [opv_den hf, h2]; rfl), .inl ⟨rfl, rfl⟩⟩
  cases b <;> exact this
 ·rename_i i q j q' h1 h2
  split at h
  ·rename_i hc
   cases h
   simp only [Bool.and_eq_true] at hc
   obtain ⟨⟨c1, c2⟩, c3⟩ := hc
   have c1 := Nat.eq_of_beq_eq_true c1
   have c2 := Nat.eq_of_beq_eq_true c2
   subst c1 c2
   obtain ⟨bt, cs, hg⟩ := isBx_spec (G := G) (N := N) (B := B) (e := e) c3
   have := V_ptrs (G := G) (s := S.den G N B e) (c := true) ho ht hb fun E a w β ro hr => by
    obtain ⟨b1, g1, g2⟩ := px_eval hr (by rw [opv_den hf, h1]; rfl) hg
    obtain ⟨b2, g3, g4⟩ := px_eval hr (by rw [opv_den hf, h2]; rfl) hg
    rw [g1] at g3
    cases g3
    exact ⟨_, _, g2, g4, .inr (.inr ⟨_, rfl, rfl, rfl⟩)⟩
   cases b <;> exact this
  ·cases h
 ·rename_i g i off h1 h2
  split at h
  ·rename_i hc
   obtain ⟨bt, cs, hg⟩ := isBx_spec (G := G) (N := N) (B := B) (e := e) hc
   refine notB_ok h hx ?_
   have := V_ptrs (G := G) (s := S.den G N B e) (c := !(g.get1 e .bool)) ho ht hb fun E a w β ro hr => by
    have hn2 : a.eval y = .pointer none := nil_eval hr (by rw [opv_den hf, h2]; rfl)
    have hd : aval G (S.den G N B e) x = (SV.gp g (some i) off).den G e := by rw [opv_den hf, h1]
    simp only [SV.den] at hd
    cases hgv : g.get1 e .bool with
    | true =>
     rw [hgv] at hd
     obtain ⟨b1, g1, g2⟩ := px_eval hr hd hg
     exact ⟨_, _, g2, hn2, .inl ⟨rfl, rfl⟩⟩
    | false =>
     rw [hgv] at hd
     exact ⟨_, _, nil_eval hr hd, hn2, .inl ⟨rfl, rfl⟩⟩
   cases b <;> simpa using this
  ·cases h
 ·rename_i g i q j q' h1 h2
  split at h
  ·rename_i hc
   simp only [Bool.and_eq_true] at hc
   obtain ⟨⟨c1, c2⟩, c3⟩ := hc
   have c1 := Nat.eq_of_beq_eq_true c1
   have c2 := Nat.eq_of_beq_eq_true c2
   subst c1 c2
   obtain ⟨bt, cs, hg⟩ := isBx_spec (G := G) (N := N) (B := B) (e := e) c3
   refine notB_ok h hx ?_
   refine V_ptrs (G := G) (s := S.den G N B e) (c := g.get1 e .bool) ho ht hb fun E a w β ro hr => ?_
   obtain ⟨b2, g3, g4⟩ := px_eval hr (by rw [opv_den hf, h2]; rfl) hg
   have hd : aval G (S.den G N B e) x = (SV.gp g (some i) q).den G e := by rw [opv_den hf, h1]
   simp only [SV.den] at hd
   cases hgv : g.get1 e .bool with
   | true =>
    rw [hgv] at hd
    obtain ⟨b1, g1, g2⟩ := px_eval hr hd hg
    rw [g1] at g3
    cases g3
    exact ⟨_, _, g2, g4, .inr (.inr ⟨_, rfl, rfl, rfl⟩)⟩
   | false =>
    rw [hgv] at hd
    exact ⟨_, _, nil_eval hr hd, g4, .inr (.inl ⟨rfl, rfl⟩)⟩
  ·cases h
 ·cases h
theorem box_cell {E : Entry} {s : St} {a : Act} {w : World} {β : Nat → Value} {ro : Nat → Prop} {id off b : Nat} {t : TypeId} {cs : List AV} (hr : RelAt E G s a w β ro) (hg : hget s.heap id = some (.box t cs)) (hb : β id = .pointer (some ⟨b, 0, none⟩)) (hl : off < cs.length) :
    ∃ arr v, w.heap[b]? = some (.cells arr t (0, 0)) ∧ arr.size = cs.length ∧ w.cell? ⟨b, off, none⟩ = some v := by
  have hO := hr.heap.objs id _ hg
  cases hO with
  | box _ _ b' arr h1 h2 h3 h4 =>
    rw [hb] at h1
    simp only [Value.pointer.injEq, Option.some.injEq, Addr.mk.injEq, and_true] at h1
    subst h1
    refine ⟨arr, arr[off]'(by omega), h2, h3, ?_⟩
    have hlt : off < arr.size := by omega
    simp [World.cell?, h2, hlt]
theorem opConvP_ok {src dst : TypeId} {x : Operand} {r : Rs} (ho : o.op = .convert src dst x) (h : opConvP P S src dst (S.opv N x) = some r) : VOk P G N B M o S r := fun e hf hx hn => by
 unfold opConvP at h
 split at h
 rotate_left
 ·cases h
 rename_i id off hv
 have hd : aval G (S.den G N B e) x = .ptr id off := by rw [opv_den hf, hv]; rfl
 split at h
 ·rename_i bt l t hg hs hdst
  split at h
  ·rename_i hz hlt
   cases h
   rw [hv]
   have hh : hget (S.den G N B e).heap id = some (.box bt (SV.denL G e l)) := by simp only [SS.den, denH_get, hg, Option.map_some, SO.den]
   intro E a w β ro hr
   obtain ⟨b, hb, he⟩ := px_eval hr hd hh
   obtain ⟨arr, v, _, _, hc⟩ := box_cell (off := off) hr hh hb (by rw [denL_len]; exact blt_lt hlt)
   refine ⟨.pointer (some ⟨b, off, none⟩), ?_, by have := hr.eval x; rw [hd, he] at this; exact this⟩
   simp only [execOp, ho, he, Sem.run_bind, run_convert_to_unsafe hs hdst hz hc, Result.andThen_ok, Sem.run_pure]
  ·cases h
 ·rename_i bt l u hg hs hdst
  split at h
  ·rename_i hla hlt
   cases h
   rw [hv]
   have hh : hget (S.den G N B e).heap id = some (.box bt (SV.denL G e l)) := by simp only [SS.den, denH_get, hg, Option.map_some, SO.den]
   intro E a w β ro hr
   obtain ⟨b, hb, he⟩ := px_eval hr hd hh
   obtain ⟨arr, v, hcells, hsz, hc⟩ := box_cell (off := off) hr hh hb (by rw [denL_len]; exact blt_lt hlt)
   refine ⟨.pointer (some ⟨b, off, none⟩), ?_, by have := hr.eval x; rw [hd, he] at this; exact this⟩
   rw [denL_len] at hsz
   have hshape : w.shape? b = some (bt, l.length) := by simp [World.shape?, hcells, hsz]
   have hconv : (convert src dst (.pointer (some ⟨b, off, none⟩))).run P w = .ok (.pointer (some ⟨b, off, none⟩)) w := by
    rw [Bool.and_eq_true] at hla
    obtain ⟨i, hi⟩ := Option.isSome_iff_exists.1 hla.2
    have hla := hla.1
    by_cases hz : i.size = 0
    ·simp [convert, Conv.unsafePointer, Conv.seenAt, viewAt, variablesAt, sizeOf, typeInfo, run_underlying hs, run_underlying hdst, hi, hz, hshape, hla, Result.andThen]
    ·simp [convert, Conv.unsafePointer, Conv.seenAt, viewAt, variablesAt, sizeOf, typeInfo, run_underlying hs, run_underlying hdst, hi, hz, hshape, hla, Result.andThen]
   simp only [execOp, ho, he, Sem.run_bind, hconv, Result.andThen_ok, Sem.run_pure]
  ·cases h
 ·cases h
theorem vop_ok {r : Rs} (h : vop P N S o = some r) : VOk P G N B M o S r := by
 unfold vop at h
 split at h
 ·rename_i x ho
  cases h
  exact .nil fun e hf => by have := R_move (P := P) (G := G) (s := S.den G N B e) x ho; rw [opv_den hf] at this; exact this
 ·rename_i x ho
  cases h
  exact .nil fun e hf => by have := R_assign (P := P) (G := G) (s := S.den G N B e) x ho; rw [opv_den hf] at this; exact this
 ·exact opPick_ok (by assumption) h
 ·rename_i x i ho
  split at h
  ·rename_i l hl
   split at h
   ·rename_i v hv
    cases h
    exact .nil fun e hf => R_extract x i ho (by rw [opv_den hf, hl]; rfl) (denL_get hv)
   ·cases h
  ·cases h
 ·rename_i x ho
  split at h
  ·rename_i hp
   cases h
   exact .nil fun e hf => by
    have := R_nilCheckP (P := P) (G := G) (s := S.den G N B e) x ho (by rw [opv_den hf]; exact isPtrS_den hp)
    rw [opv_den hf] at this
    exact this
  ·cases h
 ·rename_i t x f ho
  split at h
  ·rename_i k hk hp
   split at h
   ·rename_i p hs
    cases h
    exact .nil fun e hf => by
     have := R_fieldAddrP (P := P) (G := G) (s := S.den G N B e) t x f ho hk (by rw [opv_den hf]; exact isPtrS_den hp)
     rw [opv_den hf, shiftS_den hs] at this
     exact this
   ·cases h
  ·cases h
 ·exact opLoad_ok (by assumption) h
 ·exact opField_ok (by assumption) h
 ·exact opIndexAddr_ok (by assumption) h
 ·exact opIndex_ok (by assumption) h
 ·split at h
  ·rename_i hq
   cases h
   exact opBin_ok (by assumption) hq
  ·exact opPtr_ok (by assumption) h
 ·exact opUn_ok (by assumption) h
 ·split at h
  ·rename_i hq
   cases h
   exact opConv_ok (by assumption) hq
  ·exact opConvP_ok (by assumption) h
 ·exact opBuild_ok (by assumption) h
 ·rename_i f p q ho
  cases h
  exact .nil fun e hf => by
   have := R_makeFunc (P := P) (G := G) (s := S.den G N B e) ho
   simp only [SV.den]
   rw [denL_map, denL_map, List.map_map, List.map_map]
   have h1 : ∀ l : List Operand, l.map (aval G (S.den G N B e)) = l.map (SV.den G e ∘ S.opv N) := fun l => List.map_congr_left fun x _ => opv_den hf x
   rw [h1, h1] at this
   exact this
 ·exact opSlice_ok (by assumption) h
 ·rename_i c ho
  split at h
  ·rename_i x t hc hx ht
   obtain ⟨callee, args, ts⟩ := c
   simp only at hc hx ht
   rw [hc, arr1 hx, arr1 ht] at ho
   exact opLen_ok ho h
  ·rename_i b x y hc hx
   obtain ⟨callee, args, ts⟩ := c
   simp only at hc hx
   rw [hc, arr2 hx] at ho
   exact opMM_ok ho h
  ·rename_i f hc
   obtain ⟨callee, args, ts⟩ := c
   simp only at hc
   rw [hc] at ho
   exact opExt_ok ho rfl h
  ·cases h
 ·cases h
end
end Go.Av
namespace Go.Av
open Go

def sameK : AObj → AObj → Prop
 | .box _ _, .box _ _ => True
 | .row _ _ n _, .row _ _ m _ => n = m
 | .oth _, .oth _ => True
 | _, _ => False
section
variable {w w' : World} {ro ro' : Nat → Prop} {σ σ' : Heap} {β β' : Nat → Value} {N N' : Nat}
theorem ARel.move {x : AV} {c : Value} (h : ARel w ro σ β N x c) (hw : ∀ b, ro b → w'.heap[b]? = w.heap[b]?) (hro : ∀ b, ro b → ro' b) (hN : N ≤ N')
    (hk : ∀ id o, id < N → hget σ' id = some o → β' id = β id ∧ ∃ o', hget σ id = some o' ∧ sameK o' o) : ARel w' ro' σ' β' N' x c := by
  induction h with
  | rv x c hx => exact .rv x c (hx.keep hw hro)
  | agg cs c hs _ ih => exact .agg cs c hs ih
  | tuple cs c hs _ ih => exact .tuple cs c hs ih
  | ptr id off c hl hp =>
    refine .ptr id off c (by omega) fun t cs hg => ?_
    obtain ⟨hb, o', hg', hs⟩ := hk id _ hl hg
    cases o' with
    | box t' cs' =>
      obtain ⟨b, h1, h2⟩ := hp t' cs' hg'
      exact ⟨b, hb.trans h1, h2⟩
    | _ => exact hs.elim
  | bsl id off c hl hp =>
    refine .bsl id off c (by omega) fun t cs hg => ?_
    obtain ⟨hb, o', hg', hs⟩ := hk id _ hl hg
    cases o' with
    | box t' cs' =>
      obtain ⟨b, h1, h2⟩ := hp t' cs' hg'
      exact ⟨b, hb.trans h1, h2⟩
    | _ => exact hs.elim
  | eptr id i off c hl hp =>
    refine .eptr id i off c (by omega) fun z t n es hg => ?_
    obtain ⟨hb, o', hg', hs⟩ := hk id _ hl hg
    cases o' with
    | row z' t' n' es' =>
      have hs : n' = n := hs
      subst hs
      obtain ⟨b, l, cp, h1, h2⟩ := hp z' t' n' es' hg'
      exact ⟨b, l, cp, hb.trans h1, h2⟩
    | _ => exact hs.elim
  | sl id c hl hp =>
    refine .sl id c (by omega) fun z t n es hg => ?_
    obtain ⟨hb, o', hg', hs⟩ := hk id _ hl hg
    cases o' with
    | row z' t' n' es' => rw [hb]; exact hp z' t' n' es' hg'
    | _ => exact hs.elim
  | fn f p q c d h1 h2 _ _ ih1 ih2 => exact .fn f p q c d h1 h2 ih1 ih2
  | ref id c hl hp =>
    refine .ref id c (by omega) fun Φ hg => ?_
    obtain ⟨hb, o', hg', hs⟩ := hk id _ hl hg
    cases o' with
    | oth Φ' => rw [hb]; exact hp Φ' hg'
    | _ => exact hs.elim
  | top c => exact .top c
end

section
variable {P : Program} {G : Glob} {s : St} {E : Entry} {a : Act} {w w' : World} {β : Nat → Value} {ro : Nat → Prop}
variable {o : Oper}
theorem args_rel {x : Operand} {xs : Array Operand} {f : Fn} {p q : List AV} {c d : Array Value} (h : RelAt E G s a w β ro) (h1 : c.size = p.length) (h2 : d.size = q.length) (hpp : ∀ (j : Nat) (x : AV), p[j]? = some x → ARel w ro s.heap β s.next x (c.getD j undef)) (hqq : ∀ (j : Nat) (x : AV), q[j]? = some x → ARel w ro s.heap β s.next x (d.getD j undef)) :
    ∀ (i : Nat) (y : AV), (p ++ xs.toList.map (aval G s) ++ q)[i]? = some y → ARel w ro s.heap β s.next y ((c ++ xs.map a.eval ++ d).getD i undef) := fun i y hy => by
  rw [Array.getD_eq_getD_getElem?]
  rcases Nat.lt_or_ge i (p.length + xs.size) with hi | hi
  · rw [List.getElem?_append_left (by simpa using hi)] at hy
    rw [Array.getElem?_append_left (by simpa [h1] using hi)]
    rcases Nat.lt_or_ge i p.length with hi2 | hi2
    · rw [List.getElem?_append_left hi2] at hy
      rw [Array.getElem?_append_left (by omega), ← Array.getD_eq_getD_getElem?]
      exact hpp i y hy
    · rw [List.getElem?_append_right hi2, List.getElem?_map] at hy
      rw [Array.getElem?_append_right (by omega), h1]
      cases hz : xs.toList[i - p.length]? with
      | none => simp [hz] at hy
      | some z =>
        simp only [hz, Option.map_some, Option.some.injEq] at hy
        subst hy
        have hz' : xs[i - p.length]? = some z := by simpa using hz
        simp only [Array.getElem?_map, hz', Option.map_some, Option.getD_some]
        exact h.eval z
  · rw [List.getElem?_append_right (by simpa using hi)] at hy
    rw [Array.getElem?_append_right (by simpa [h1] using hi), ← Array.getD_eq_getD_getElem?]
    have := hqq _ y hy
    simpa [h1] using this
theorem callF {x : Operand} {xs : Array Operand} {ts : Array TypeId} (ho : o.op = .call { callee := .value x, args := xs, argTypes := ts }) {f : FuncId} {p q : List AV} (hx : aval G s x = .fn (.func f) p q) (hcb : callable P f = true)
    {R : AV → Heap → Prop} (hc : ACalls P G f (p ++ xs.toList.map (aval G s) ++ q) s.heap s.next R) {s' : St → Prop}
    (hR : ∀ r τ, R r τ → ∃ m, s.next ≤ m ∧ belowA m r = true ∧ belowH m τ = true ∧ (∀ id o, id < s.next → hget τ id = some o → ∃ o', hget s.heap id = some o' ∧ sameK o' o) ∧ s' (St.put ⟨s.slots, τ, m, s.base⟩ o.dst r)) :
    ∀ (E : Entry) (a : Act) (w : World), Rel E G s a w → ∀ (K : Act → World → Prop) (Q : Exit → Act → World → Prop), (∀ t, s' t → ∀ a' w', Rel E G t a' w' → K a' w') → o.wp P a w K Q := by
  intro E a w ⟨β, ro, h⟩ K Q hK
  have hfx := h.eval x
  rw [hx] at hfx
  generalize he : a.eval x = fv at hfx
  cases hfx with
  | fn _ _ _ c d h1 h2 hpp hqq =>
    unfold Oper.wp
    simp only [execOp, ho, resolve, he, Deferred.ofValue, Sem.run_bind, Sem.run_pure, Result.andThen_ok, invoke]
    rw [callable_run hcb]
    have hcall := hc w β ro (c ++ xs.map a.eval ++ d) (by simp [h1, h2, Nat.add_assoc]) (args_rel (x := x) (f := .func f) h h1 h2 hpp hqq) h.heap h.glob h.trans.new
    refine Calls.mono hcall fun e w' hq => ?_
    obtain ⟨v, r, τ, β', ro', n', rfl, hr, hrel, hh', ht'⟩ := hq
    obtain ⟨m, hm, hbr, hbh, hkind, hs'⟩ := hR r τ hr
    have hw : ∀ b, ro b → w'.heap[b]? = w.heap[b]? := fun b hb => ht'.frame b (h.heap.lt b hb) (h.heap.disj b hb)
    have hro : ∀ b, ro b → ro' b := ht'.roKeep
    have hk : ∀ id o, id < s.next → hget τ id = some o → β' id = β id ∧ ∃ o', hget s.heap id = some o' ∧ sameK o' o := fun id o hlt hg => ⟨(ht'.old id hlt o hg).2, hkind id o hlt hg⟩
    have hnew : RelAt E G ⟨s.slots, τ, m, s.base⟩ a w' β' ro' := by
      refine ⟨h.defers, h.size, fun i x hx => (h.slot i x hx).move hw hro hm hk, ⟨fun id o hg => ?_, hh'.inj, hh'.disj, hh'.lt⟩, h.glob.keep hw hro, ?_, h.base⟩
      · obtain ⟨_, hbx⟩ := belowH_at hbh hg
        cases hh'.objs id o hg with
        | box t cs b arr e1 e2 e3 e4 => exact .box t cs b arr e1 e2 e3 fun j x hj => (e4 j x hj).lower (belowL_at (hbx t cs rfl) hj)
        | row t n es xs e1 e2 e3 => exact .row t n es xs e1 e2 e3
        | fro t n es e1 => exact .fro t n es e1
        | oth Φ b o e1 e2 e3 => exact .oth Φ b o e1 e2 e3
      · have t := h.trans
        refine ⟨ht'.os.trans t.os, ht'.tape.trans t.tape, ht'.output.trans t.output, Nat.le_trans t.size ht'.size, fun b hb hn => ?_, fun b hb => ?_, fun b hb => hro b (t.roKeep b hb), fun b hb => ?_, fun id hlt o hg => ?_, fun id o hg => (belowH_at hbh hg).1, Nat.le_trans t.le hm⟩
        · rw [← t.frame b hb hn]
          refine ht'.frame b (Nat.lt_of_lt_of_le hb t.size) fun hown => ?_
          rcases t.ownSub b hown with q | q
          · exact hn q
          · omega
        · rcases ht'.roSub b hb with q | q | q
          · exact t.roSub b q
          · rcases t.ownSub b q with q | q
            · exact .inr (.inl q)
            · exact .inr (.inr q)
          · exact .inr (.inr (Nat.le_trans t.size q))
        · rcases ht'.ownSub b hb with q | q
          · exact t.ownSub b q
          · exact .inr (Nat.le_trans t.size q)
        · have hlt' : id < s.next := Nat.lt_of_lt_of_le hlt t.le
          obtain ⟨h1, h2⟩ := hk id o hlt' hg
          obtain ⟨o', h3, _⟩ := h2
          obtain ⟨q1, q2⟩ := t.old id hlt o' h3
          exact ⟨q1, h1.trans q2⟩
    exact hK _ hs' _ _ ⟨β', ro', hnew.put o.dst r v (hrel.lower hbr)⟩
end
end Go.Av
namespace Go.Av
open Go

inductive SubO : AObj → AObj → Prop where
 | same (o : AObj) : SubO o o
 | box (t : TypeId) {cs ds : List AV} : SubA cs ds → SubO (.box t cs) (.box t ds)
 | row (t : TypeId) (n : Nat) {es fs : List (List RV)} : es.length = fs.length → (∀ e ∈ fs, e.length = n) → SubL es.flatten fs.flatten → SubO (.row false t n es) (.row false t n fs)
def LeA (s t : St) : Prop := ∀ E (G : Glob) a w β ro, RelAt E G s a w β ro → RelAt E G t a w β ro
theorem LeA.le {s t : St} (h : LeA s t) : Le s t := fun E G a w ⟨β, ro, hr⟩ => ⟨β, ro, h E G a w β ro hr⟩
theorem LeA.of {s t : St} (hb : t.base = s.base) (hn : s.next ≤ t.next) (hl : t.slots.length = s.slots.length) (hs : ∀ (i : Nat) (v : AV), t.slots[i]? = some v → ∃ u, s.slots[i]? = some u ∧ Sub u v)
    (hh : ∀ (id : Nat) (o : AObj), hget t.heap id = some o → ∃ o', hget s.heap id = some o' ∧ SubO o' o) : LeA s t := by
  intro E G a w β ro h
  have hbox : ∀ id ty cs, hget t.heap id = some (.box ty cs) → β id = β id ∧ ∃ ty cs, hget s.heap id = some (.box ty cs) := fun id ty cs hg => by
    obtain ⟨o', h1, h2⟩ := hh id _ hg
    cases h2 with
    | same => exact ⟨rfl, ty, cs, h1⟩
    | box _ h => exact ⟨rfl, _, _, h1⟩
  have hrow : ∀ id z ty n es, hget t.heap id = some (.row z ty n es) → β id = β id ∧ ∃ z ty es, hget s.heap id = some (.row z ty n es) := fun id z ty n es hg => by
    obtain ⟨o', h1, h2⟩ := hh id _ hg
    cases h2 with
    | same => exact ⟨rfl, z, ty, es, h1⟩
    | row _ _ => exact ⟨rfl, _, _, _, h1⟩
  have hoth : ∀ id Φ, hget t.heap id = some (.oth Φ) → β id = β id ∧ ∃ Φ, hget s.heap id = some (.oth Φ) := fun id Φ hg => by
    obtain ⟨o', h1, h2⟩ := hh id _ hg
    cases h2 with
    | same => exact ⟨rfl, Φ, h1⟩
  have hex : ∀ id o, hget t.heap id = some o → ∃ o', hget s.heap id = some o' ∧ o'.live = o.live := fun id o hg => by
    obtain ⟨o', h1, h2⟩ := hh id o hg
    cases h2 <;> exact ⟨_, h1, rfl⟩
  have own : ∀ b, Own t.heap β b → Own s.heap β b := fun b ⟨id, o, hg, hlv, hbk⟩ => by
    obtain ⟨o', h1, h2⟩ := hex id o hg
    exact ⟨id, o', h1, by rw [h2]; exact hlv, hbk⟩
  refine ⟨h.defers, by rw [hl]; exact h.size, fun i x hx => ?_, ⟨fun id o hg => ?_, fun id id' o o' b h1 h2 h3 h4 h5 h6 => ?_, fun b hb ho => h.heap.disj b hb (own b ho), h.heap.lt⟩, h.glob, ?_, by rw [hb]; exact h.base⟩
  · obtain ⟨u, hu, hsub⟩ := hs i x hx
    exact (hsub _ _ _ _ _ _ (h.slot i u hu)).keep (fun _ _ => rfl) (fun _ h => h) hn hbox hrow hoth
  · obtain ⟨o', h1, hso⟩ := hh id o hg
    have hO := (h.heap.objs id o' h1).keep (fun _ _ => rfl) (fun _ h => h) hn (Nat.le_refl _) rfl (fun _ _ _ => rfl) hbox hrow hoth
    cases hso with
    | same => exact hO
    | box ty hsub =>
      cases hO with
      | box _ _ b arr e1 e2 e3 e4 =>
        refine .box ty _ b arr e1 e2 (by rw [e3, hsub.at.1]) fun j x hj => ?_
        obtain ⟨u, hu, hsu⟩ := hsub.at.2 j x hj
        exact hsu _ _ _ _ _ _ (e4 j u hu)
    | row ty n hl hn hsub =>
      cases hO with
      | row _ _ _ xs e1 e2 e3 =>
        refine .row ty n _ xs (by rw [← hl]; exact e1) hn fun j x hj => ?_
        obtain ⟨u, hu, hsu⟩ := hsub.at.2 j x hj
        exact hsu _ _ _ (e3 j u hu)
  · obtain ⟨p, g1, g2⟩ := hex id o h1
    obtain ⟨p', g3, g4⟩ := hex id' o' h2
    exact h.heap.inj id id' p p' b g1 g3 (by rw [g2]; exact h3) (by rw [g4]; exact h4) h5 h6
  · have tr := h.trans
    refine ⟨tr.os, tr.tape, tr.output, tr.size, tr.frame, tr.roSub, tr.roKeep, fun b hb => tr.ownSub b (own b hb), fun id hi o hg => ?_, fun id o hg => ?_, Nat.le_trans tr.le hn⟩
    · obtain ⟨p, g1, _⟩ := hex id o hg
      exact tr.old id hi p g1
    · obtain ⟨p, g1, _⟩ := hex id o hg
      exact Nat.lt_of_lt_of_le (tr.new id p g1) hn

theorem Le.of {s t : St} (hb : t.base = s.base) (hn : s.next ≤ t.next) (hl : t.slots.length = s.slots.length) (hs : ∀ (i : Nat) (v : AV), t.slots[i]? = some v → ∃ u, s.slots[i]? = some u ∧ Sub u v)
    (hh : ∀ (id : Nat) (o : AObj), hget t.heap id = some o → ∃ o', hget s.heap id = some o' ∧ SubO o' o) : Le s t := (LeA.of hb hn hl hs hh).le
theorem LeA.put {s t : St} {i : Nat} {x : RV} (h : LeA s t) (hs : s.slots[i]? = some (.rv x)) : LeA s (t.put (some i) (.rv x)) := by
 intro E G a w β ro hr
 have ht := h E G a w β ro hr
 refine ⟨ht.defers, by simp only [St.put, List.length_set]; exact ht.size, fun j y hy => ?_, ht.heap, ht.glob, ht.trans, ht.base⟩
 simp only [St.put, List.getElem?_set] at hy
 split at hy
 ·rename_i e
  subst e
  split at hy
  ·cases hy
   cases hr.slot i (.rv x) hs with
   | rv _ _ hv => exact .rv _ _ hv
  ·cases hy
 ·exact ht.slot j y hy

section
variable {P : Program} {G : Glob}
theorem OpStep.weak {o : Oper} {s t t' : St} (h : OpStep P G o s t) (hl : Le t t') : OpStep P G o s t' :=
 fun E a w hr K Q hK => h E a w hr K Q fun a' w' hr' => hK a' w' (hl E G a' w' hr')
theorem put_le {s : St} {dst : Option Nat} {v v' : AV} (h : Sub v v') : Le (s.put dst v) (s.put dst v') := by
 cases dst with
 | none => exact Le.refl _
 | some d =>
  refine Le.of rfl (Nat.le_refl _) (by simp [St.put]) (fun i u hu => ?_) (fun id o ho => ⟨o, ho, .same o⟩)
  simp only [St.put, List.getElem?_set] at hu ⊢
  split at hu
  ·rename_i e
   rw [if_pos e]
   split at hu
   ·rename_i hlt
    cases hu
    rw [if_pos hlt]
    exact ⟨_, rfl, h⟩
   ·cases hu
  ·rename_i e
   rw [if_neg e]
   exact ⟨u, hu, Sub.refl _⟩
theorem le_heap {s : St} {h' : Heap} {dst : Option Nat} {v : AV} (hh : ∀ id o, hget h' id = some o → ∃ o', hget s.heap id = some o' ∧ SubO o' o) : Le (s.put dst v) (St.put { s with heap := h' } dst v) := by
 cases dst with
 | none => exact Le.of rfl (Nat.le_refl _) rfl (fun i u hu => ⟨u, hu, Sub.refl _⟩) hh
 | some d => exact Le.of rfl (Nat.le_refl _) rfl (fun i u hu => ⟨u, hu, Sub.refl _⟩) hh
theorem subA_rv : ∀ {l m : List RV}, SubA (l.map .rv) (m.map .rv) → SubL l m
 | [], [], _ => .nil
 | [], _ :: _, h => by cases h
 | _ :: _, [], h => by cases h
 | x :: l, y :: m, h => by
  cases h with
  | cons h1 h2 =>
   refine .cons (fun w ro c hc => ?_) (subA_rv h2)
   have := h1 w ro [] (fun _ => undef) 0 c (.rv x c hc)
   cases this with
   | rv _ _ h => exact h
theorem SubL.refl : ∀ (l : List RV), SubL l l
 | [] => .nil
 | x :: r => .cons (SubR.refl x) (SubL.refl r)
theorem SubL.append {a b c d : List RV} (h : SubL a b) (k : SubL c d) : SubL (a ++ c) (b ++ d) := by
 induction h with
 | nil => exact k
 | cons h _ ih => exact .cons h ih
end
section
variable {P : Program} {G : Glob} {s : St}
theorem R_buildBox {o : Oper} (t : TypeId) (len : Nat) (parts : Array (Nat × Operand)) (ho : o.op = .buildSlice t len parts) {e n : Nat} (hu : P.underlying t = some (.slice e)) (hsz : (P.info? e).map (·.size) = some n)
    {zs : List Value} (hz : zeroCells P e = some zs) (hzall : zs.all Value.oneCell' = true) (hzl : zs.length = n) (hlen : 0 < len * n ∧ len * n ≤ 16777216)
    {ps : List (Nat × AV)} (hps : parts.toList.map (fun p => (p.1, aval G s p.2)) = ps) (hall : ps.all (fun p => (vcells p.2).all (cellOkIn s.heap)) = true)
    {ds : List AV} (hf : afill (fun i => some (i * n, n)) ((List.replicate len (zs.map fun z => AV.rv (.v z))).flatten) ps = some ds) (hb : s.base ≤ s.next) :
    OpStep P G o s ({ s with heap := (s.next, .box e ds) :: s.heap, next := s.next + 1 }.put o.dst (.bsl s.next len)) := by
  have hds : ds.length = len * n := by
    have : ∀ (ps : List (Nat × AV)) (cs ds : List AV), afill (fun i => some (i * n, n)) cs ps = some ds → ds.length = cs.length := by
      intro ps
      induction ps with
      | nil => intro cs ds h; simp [afill] at h; rw [h]
      | cons p r ih =>
        intro cs ds h
        obtain ⟨i, v⟩ := p
        simp only [afill] at h
        split at h
        · rename_i hc
          rw [ih _ _ h, splice_length _ _ _ (by omega)]
        · cases h
    rw [this ps _ _ hf, length_flatten_of (n := n) (fun e he => by rw [List.mem_replicate] at he; rw [he.2]; simpa using hzl)]
    simp
  intro E a w ⟨β, ro, hr⟩ K Q hK
  obtain ⟨h1, h2⟩ := parts_rel hr hps hall
  obtain ⟨z, hrz, hzc, _⟩ := run_zero hz w
  have hcells : (List.replicate len (zs.map fun z => AV.rv (.v z))).flatten.length = len * n := by
    rw [length_flatten_of (n := n) (fun e he => by rw [List.mem_replicate] at he; rw [he.2]; simpa using hzl)]; simp
  have hzsz : zs.toArray.size = n := by simpa using hzl
  have hnpos : 0 < n := by
    rcases Nat.eq_zero_or_pos n with h | h
    · rw [h] at hlen; simp at hlen
    · exact h
  obtain ⟨ys, g1, g2, g3⟩ := afill_run (place' := fun i => some (i * n, n)) (fun _ _ h => h) hr.heap hf h1 h2 (xs := (Array.range (len * n)).map fun x => zs.toArray[x % zs.toArray.size]!) (by rw [hcells]; simp) (fun j x hj => by
    have hjl : j < len * n := by rw [← hcells]; exact (List.getElem?_eq_some_iff.1 hj).1
    have hm : j = (j / n) * n + j % n := by rw [Nat.mul_comm]; exact (Nat.div_add_mod j n).symm
    have hmn : j % n < n := Nat.mod_lt _ hnpos
    have hdl : j / n < len := by rw [Nat.div_lt_iff_lt_mul hnpos]; exact hjl
    rw [hm, flatten_at (n := n) (fun e he => by rw [List.mem_replicate] at he; rw [he.2]; simpa using hzl) (i := j / n) (e := zs.map fun z => AV.rv (.v z)) (by simp [hdl]) (j % n) hmn] at hj
    have := zs_rel (w := w) (ro := ro) (σ := s.heap) (β := β) (N := s.next) hzall (j % n) x hj
    have e1 : (Array.map (fun x => zs.toArray[x % zs.toArray.size]!) (Array.range (len * n))).getD j undef = zs.toArray.getD (j % n) undef := by
      have h3 : j % n < zs.length := by omega
      simp [hjl, hzl, List.getElem?_eq_getElem h3]
    rw [e1]
    exact this)
  have hrun : (execOp a.eval o).run P w = .ok (.value (.slice (some ⟨w.heap.size, 0, none⟩) len len)) (w.alloc (.cells ys e)) := by
    have hse : (sizeOf e).run P w = .ok n w := by
      cases hi : P.info? e with
      | none => simp [hi] at hsz
      | some i => simp [hi] at hsz; simp [sizeOf, typeInfo, hi, hsz]
    have hne : ¬ len * n > 2 ^ 24 := by omega
    have hn0 : ¬ len * n = 0 := by omega
    simp only [execOp, ho, Sem.run_bind, Instr.buildSlice, run_underlying hu, Result.andThen_ok, hse, if_neg hne, if_neg hn0, hrz, Sem.run_pure, hzc]
    erw [g1]
    simp [newRow]
  have hnone : hget s.heap s.next = none := by
    cases hg : hget s.heap s.next with
    | none => rfl
    | some p => have := hr.trans.new _ _ hg; omega
  have up : ∀ (x : AV) (c : Value), ARel w ro s.heap β s.next x c → ARel (w.alloc (.cells ys e)) ro ((s.next, .box e ds) :: s.heap) (upd β s.next (.pointer (some ⟨w.heap.size, 0, none⟩))) (s.next + 1) x c := fun x c hx =>
    hx.move (fun b hb => (Go.RowKit.Below.heap_alloc w _ b (hr.heap.lt b hb))) (fun _ h => h) (Nat.le_succ _) fun id o hlt hg => by
      have hne : ¬ s.next = id := by omega
      simp only [hget, if_neg hne] at hg
      refine ⟨upd_ne _ _ (fun hh => hne hh.symm), o, hg, ?_⟩
      cases o with
      | box => trivial
      | row => rfl
      | oth => trivial
  have hnew := hr.new (w' := w.alloc (.cells ys e)) s.next hnone hb (Nat.le_refl _) (.box e ds) (.pointer (some ⟨w.heap.size, 0, none⟩)) rfl rfl rfl (by simp) (fun b hb => Go.RowKit.Below.heap_alloc w _ b hb) (fun b hb => by simp [blk] at hb; omega) rfl
    (.box e ds w.heap.size ys (by rw [upd_same]) (heap_alloc_new w _) g2 fun j x hj => up _ _ (g3 j x hj))
  unfold Oper.wp
  rw [hrun]
  exact hK _ _ ⟨_, ro, hnew.put o.dst (.bsl s.next len) (.slice (some ⟨w.heap.size, 0, none⟩) len len) (.bsl _ _ _ (Nat.lt_succ_self _) fun t cs _ => ⟨_, upd_same _ _ _, rfl⟩)⟩
end
def SV.isRV : SV → Bool
 | .va _ _ => true
 | .fd _ _ _ _ => true
 | .cs _ => true
 | .ip _ _ _ => true
 | _ => false
theorem isRV_rvs {G : Glob} {e : Env} : ∀ {l : List SV}, l.all SV.isRV = true → ∃ vs, rvs (SV.denL G e l) = some vs ∧ SV.denL G e l = vs.map .rv
 | [], _ => ⟨[], rfl, rfl⟩
 | x :: r, h => by
  simp only [List.all_cons, Bool.and_eq_true] at h
  obtain ⟨vs, h1, h2⟩ := isRV_rvs (G := G) (e := e) h.2
  have : ∃ y, x.den G e = .rv y := by
   cases x <;> first | exact ⟨_, rfl⟩ | (simp [SV.isRV] at h)
  obtain ⟨y, hy⟩ := this
  refine ⟨y :: vs, ?_, ?_⟩
  ·simp only [SV.denL, hy, rvs, h1]
  ·simp only [SV.denL, hy, h2, List.map_cons]
mutual
def SV.kill (id : Nat) : SV → SV
 | .ag l => .ag (SV.killL id l)
 | .tp l => .tp (SV.killL id l)
 | .px k o => match decide (k = id) with
  | true => .top
  | false => .px k o
 | .pe k x o => match decide (k = id) with
  | true => .top
  | false => .pe k x o
 | .pv k o x n => match decide (k = id) with
  | true => .top
  | false => .pv k o x n
 | .sl k => match decide (k = id) with
  | true => .top
  | false => .sl k
 | .bs k n => match decide (k = id) with
  | true => .top
  | false => .bs k n
 | .gp g (some k) o => match decide (k = id) with
  | true => .gp g none o
  | false => .gp g (some k) o
 | .fn f a b => .fn f (SV.killL id a) (SV.killL id b)
 | .rf k => match decide (k = id) with
  | true => .top
  | false => .rf k
 | .gd g b x => .gd g b (SV.kill id x)
 | x => x
def SV.killL (id : Nat) : List SV → List SV
 | [] => []
 | x :: r => SV.kill id x :: SV.killL id r
end
def Tri.map {α : Type} (f : α → α) : Tri α → Tri α
 | .emp => .emp
 | .n v l r => .n (match v with | some x => some (f x) | none => none) (l.map f) (r.map f)
theorem Tri.get_map {α : Type} (f : α → α) : ∀ (t : Tri α) (k : Nat), (t.map f).get k = (t.get k).map f
 | .emp, _ => rfl
 | .n v l r, k => by
  simp only [Tri.map, Tri.get]
  split
  ·cases v <;> rfl
  ·split
   ·exact Tri.get_map f l _
   ·exact Tri.get_map f r _
structure Ws where
 xs : List Ex
 ns : List Nd
 kl : Option Nat
 h : List (Nat × SO)
 n : Nat
 v : SV
def Ws.l (r : Ws) (l : Tri SV) : Tri SV :=
 match r.kl with
 | none => l
 | some id => l.map (SV.kill id)
def Ws.st (r : Ws) (S : SS) (dst : Option Nat) : SS := ({ S with l := r.l S.l, h := r.h, n := r.n } : SS).put dst r.v
def WOk (P : Program) (G : Glob) (N B : Nat) (M : List Md) (o : Oper) (S : SS) (r : Ws) : Prop :=
 ∀ e, (∀ c ∈ S.g, c.ok e) → (∀ (j : Nat) (x : Ex), r.xs[j]? = some x → Env.at e (S.k + j) = x.den M e) → (∀ n ∈ r.ns, n.ok M e) → OpStep P G o (S.den G N B e) ((r.st S o.dst).den G N B e)
def opAlloc (P : Program) (B : Nat) (S : SS) (t : TypeId) : Option Ws :=
 match zeroCells P t with
 | some zs => match zs.all Value.oneCell' && Nat.ble B S.n with
  | true => some ⟨[], [], none, (S.n, .bx t (zs.map .cs)) :: S.h, S.n + 1, .px S.n 0⟩
  | false => none
 | none => none
def opBox (B : Nat) (S : SS) (t : TypeId) (x : SV) : Option Ws :=
 match x.cells.all (okC S.h) && Nat.ble B S.n with
 | true => some ⟨[], [], none, (S.n, .bx t x.cells) :: S.h, S.n + 1, .px S.n 0⟩
 | false => none
def opStore (P : Program) (S : SS) (t : TypeId) (p x : SV) : Option Ws :=
  match p with
  | .px id off => match getH S.h id, (P.info? t).map (·.size) with
    | some (.bx bt l), some n => match x.cells.all (okC S.h) && (Nat.beq n x.cells.length && Nat.ble (off + n) l.length) with
      | true => some ⟨[], [], none, setH S.h id (.bx bt (splice l off x.cells)), S.n, .top⟩
      | false => none
    | _, _ => none
  | .pe id i off => match getH S.h id, (P.info? t).map (·.size), i.rt with
    | some (.rw bt c y), some n, some (.int k) => match x.cells.all SV.isRV && ((x.cells.all (okC S.h) && y.is1 (.li c)) && (Nat.beq n x.cells.length && (Nat.ble (off + n) (nT c) && isL (fT c) (splice (fsOf c S.k 0 (fT c)) off x.cells)))) with
      | true => some ⟨[.f2 (.ixL c k) y i, .up c y i (.ag (splice (fsOf c S.k 0 (fT c)) off x.cells))], idxN S.g (.lnL c) (.ixL c k) y i,
          none, setH S.h id (.rw bt c (.va (.li c) (S.k + 1))), S.n, .top⟩
      | false => none
    | _, _, _ => none
  | _ => none
section
variable {P : Program} {G : Glob} {o : Oper} {N B : Nat} {S : SS} {M : List Md}
theorem opAlloc_ok {t : TypeId} {r : Ws} (ho : o.op = .alloc t) (h : opAlloc P B S t = some r) : WOk P G N B M o S r := fun e hf hx hn => by
 unfold opAlloc at h
 split at h
 ·rename_i zs hz
  split at h
  ·rename_i hb
   cases h
   simp only [Bool.and_eq_true] at hb
   have := R_alloc (G := G) (s := S.den G N B e) t ho (Nat.le_of_ble_eq_true hb.2) hz hb.1
   rw [Ws.st, den_put]
   simp only [SS.den, denH, SO.den, SV.den, Ws.l] at this ⊢
   rw [denL_map, List.map_map]
   exact this
  ·cases h
 ·cases h
theorem opBox_ok {t : TypeId} {x : Operand} {r : Ws} (ho : o.op = .box t x) (h : opBox B S t (S.opv N x) = some r) : WOk P G N B M o S r := fun e hf hx hn => by
 unfold opBox at h
 split at h
 ·rename_i hb
  cases h
  simp only [Bool.and_eq_true] at hb
  have hv := vcells_den (G := G) (e := e) hb.1
  have := R_box (P := P) (G := G) (s := S.den G N B e) t x ho (Nat.le_of_ble_eq_true hb.2) (by rw [opv_den hf, hv]; exact okCs_den hb.1)
  rw [opv_den hf, hv] at this
  rw [Ws.st, den_put]
  exact this
 ·cases h
theorem flat_set_sub {c : TC} {l : List (tbl c)} {j : Nat} {e0 e1 : tbl c} {vs : List RV} (h0 : l[j]? = some e0) (hs : SubL vs (cT c e1)) : SubL ((l.map (cT c)).set j vs).flatten ((l.set j e1).map (cT c)).flatten := by
 induction l generalizing j with
 | nil => simp at h0
 | cons x l ih =>
  cases j with
  | zero =>
   simp only [List.map_cons, List.set_cons_zero, List.flatten_cons]
   exact hs.append (SubL.refl _)
  | succ j =>
   simp only [List.map_cons, List.set_cons_succ, List.flatten_cons]
   exact (SubL.refl _).append (ih (by simpa using h0))
theorem opStore_ok {t : TypeId} {p x : Operand} {r : Ws} (ho : o.op = .store t p x) (h : opStore P S t (S.opv N p) (S.opv N x) = some r) : WOk P G N B M o S r := fun e hf hx hn => by
 unfold opStore at h
 split at h
 ·rename_i id off hp
  split at h
  ·rename_i bt l n hg hsz
   split at h
   ·rename_i hb
    cases h
    simp only [Bool.and_eq_true] at hb
    have hv := vcells_den (G := G) (e := e) hb.1
    have hlen := Nat.eq_of_beq_eq_true hb.2.1
    have hxv : vcells (aval G (S.den G N B e) x) = SV.denL G e (S.opv N x).cells := by rw [opv_den hf, hv]
    have := R_store (P := P) (G := G) (s := S.den G N B e) t p x ho (id := id) (off := off) (by rw [opv_den hf, hp]; rfl) (bt := bt) (cs := SV.denL G e l) (by simp only [SS.den, denH_get, hg, Option.map_some, SO.den])
     (vs := SV.denL G e (S.opv N x).cells) hxv (okCs_den hb.1) (by rw [denL_len, hsz, hlen]) (by rw [denL_len, denL_len, ← hlen]; exact Nat.le_of_ble_eq_true hb.2.2)
    rw [Ws.st, den_put]
    simp only [SS.den, denH_set, SO.den, SV.den, Ws.l] at this ⊢
    rw [denL_map, splice_map, ← denL_map, ← denL_map]
    exact this
   ·cases h
  ·cases h
 ·rename_i id i off hp
  split at h
  ·rename_i bt c y n k hg hsz hi
   split at h
   ·rename_i hb
    cases h
    simp only [Bool.and_eq_true] at hb
    obtain ⟨b1, ⟨b2, b3⟩, b4, b5, b6⟩ := hb
    have hlen := Nat.eq_of_beq_eq_true b4
    obtain ⟨g1, g2⟩ := idxN_L hf hi hn
    obtain ⟨vs, v1, v2⟩ := isRV_rvs (G := G) (e := e) b1
    have hvl : vs.length = n := by
     have := congrArg List.length v2
     rw [denL_len, List.length_map] at this
     omega
    have hxv : vcells (aval G (S.den G N B e) x) = SV.denL G e (S.opv N x).cells := by rw [opv_den hf, vcells_den b2]
    have h0 : Env.at e S.k = ⟨.st c, List.getD (y.get1 e (.li c)) (Int.toNat (i.get1 e (.int k))) (dT c)⟩ := hx 0 _ rfl
    have h1 : Env.at e (S.k + 1) = _ := hx 1 _ rfl
    have hat := getD_at g1 g2
    have hst := R_store_row (P := P) (G := G) (s := S.den G N B e) t p x ho (id := id) (i := (intD (i.dyn e)).toNat) (off := off) (by rw [opv_den hf, hp]; rfl) (bt := bt) (n := nT c) (es := List.map (cT c) (y.get1 e (.li c))) (by simp only [SS.den, denH_get, hg, Option.map_some, SO.den])
     (e := cT c (List.getD (y.get1 e (.li c)) (Int.toNat (i.get1 e (.int k))) (dT c))) (by rw [List.getElem?_map, rt_intD hi, hat]; rfl) (by rw [hxv]; exact v1) (by rw [hsz, hvl]) (by rw [hvl]; exact Nat.le_of_ble_eq_true b5)
    refine hst.weak ?_
    rw [Ws.st, den_put]
    have hcell : SubL (splice (cT c (List.getD (y.get1 e (.li c)) (Int.toNat (i.get1 e (.int k))) (dT c))) off vs) (cT c (mT c (dynL e (fT c) (splice (fsOf c S.k 0 (fT c)) off (S.opv N x).cells)))) := by
     have := isSt_sub (G := G) (e := e) b6
     rw [denL_map, splice_map, ← denL_map, ← denL_map, fs_den, h0, as_mk, v2, ← splice_map] at this
     exact subA_rv this
    have hnew : (SV.va (.li c) (S.k + 1)).get1 e (.li c) = List.set (y.get1 e (.li c)) (intD (i.dyn e)).toNat (mT c (dynL e (fT c) (splice (fsOf c S.k 0 (fT c)) off (S.opv N x).cells))) := by
     simp only [SV.get1, SV.dyn1, SV.dyn, as_mk, h1, Ex.den, SV.get, SV.cells]
    refine le_heap (s := { S.den G N B e with heap := hset (S.den G N B e).heap id _ }) (h' := denH G e (setH S.h id (.rw bt c (.va (.li c) (S.k + 1))))) fun id' ob hob => ?_
    rw [denH_set, hget_hset] at hob
    simp only [hget_hset]
    by_cases hid : id = id'
    ·rw [if_pos hid] at hob ⊢
     cases hob
     refine ⟨_, rfl, ?_⟩
     simp only [SO.den]
     rw [hnew]
     refine .row bt (nT c) (by simp) (fun q hq => ?_) (flat_set_sub (by rw [rt_intD hi]; exact hat) hcell)
     obtain ⟨z, _, rfl⟩ := List.mem_map.1 hq
     exact cT_len c z
    ·rw [if_neg hid] at hob ⊢
     exact ⟨ob, hob, .same ob⟩
   ·cases h
  ·cases h
 ·cases h
end
end Go.Av
namespace Go.Av
open Go Go.Lib

section
variable {P : Program}
theorem run_append_rowS {w : World} (t u ty e : TypeId) {i : TypeInfo} (ht : P.underlying t = some (.slice e)) (hu : P.underlying u = some .string) (hi : P.info? e = some i) (hz : i.zero = some (.int .u8 0)) (hsize : i.size = 1) (hby : i.bytes = 1)
    {v : Value} {n : Nat} {xs : List Value} (hrow : RowIs w e 1 v n xs) (s : ByteArray) (h63 : n + s.size ≤ maxLen) (hbytes : n + s.size ≤ 140737488355328) :
    ∃ v' w', (Builtin.append_ #[t, u] ty #[v, .string s]).run P w = .ok v' w' ∧ RowIs w' e 1 v' (n + s.size) (xs ++ strCells s) ∧ w.grownBy w' (blk v) ∧ (∀ k, blk v' = some k → blk v = some k ∨ w.heap.size ≤ k) := by
  have hsmall : n + s.size ≤ 9223372036854775807 := by simp only [maxLen] at h63; omega
  have hxl : xs.length = n := by simpa using hrow.1
  have hlen : (xs ++ strCells s).length = (n + s.size) * 1 := by rw [List.length_append, hxl, strCells_length, Nat.mul_one]
  have grown : ∀ (old : Nat), old < n + s.size → ∀ (row : Option Nat),
      RowIs (w.drew.alloc (.cells (xs.toArray ++ (strCells s).toArray ++ Builtin.zeroCells (Value.int .u8 0).cells (grownCap w (n + s.size) old e - (n + s.size))) e)) e 1
        (.slice (some ⟨w.heap.size, 0, none⟩) (n + s.size) (grownCap w (n + s.size) old e)) (n + s.size) (xs ++ strCells s) ∧
      w.grownBy (w.drew.alloc (.cells (xs.toArray ++ (strCells s).toArray ++ Builtin.zeroCells (Value.int .u8 0).cells (grownCap w (n + s.size) old e - (n + s.size))) e)) row := by
    intro old ho row
    have hge := grownCap_ge w (n + s.size) old e
    have hcm : grownCap w (n + s.size) old e ≤ maxLen := grownCap_le_maxLen w (n + s.size) old e h63
    refine ⟨⟨hlen, .inr ⟨w.heap.size, _, _, rfl, by omega, heap_alloc_new w.drew _, hge, hcm, ?_, ?_⟩⟩, ⟨rfl, rfl, rfl, by simp, fun k hk _ => Go.RowKit.Below.heap_alloc w.drew _ k hk⟩⟩
    · have hz1 : (Value.int IntKind.u8 0).cells.size = 1 := rfl
      simp only [Array.size_append, List.size_toArray, size_zeroCells, hz1, hxl, strCells_length]
      omega
    · simp only [Array.toList_append, List.append_assoc]
      rw [← List.append_assoc, ← hlen]
      exact List.take_left
  have newB : ∀ (m c k : Nat), blk (.slice (some ⟨w.heap.size, 0, none⟩) m c) = some k → blk v = some k ∨ w.heap.size ≤ k := fun m c k hk => by
    simp only [blk] at hk
    split at hk
    · cases hk
    · simp at hk; exact .inr (by omega)
  rcases hrow.2 with ⟨⟨c, rfl, hce⟩, hn0⟩ | ⟨g, cap, cur, rfl, hcp, hg, hnc, hcm, hcs, htake⟩
  · subst hn0
    have hx : xs = [] := List.eq_nil_of_length_eq_zero hxl
    subst hx
    by_cases hm : s.size = 0
    · have hnil : strCells s = [] := List.eq_nil_of_length_eq_zero (by rw [strCells_length]; exact hm)
      have hf := run_firstCells_string (P := P) w 1 s
      rw [hm] at hf
      refine ⟨.slice c 0 0, w, ?_, by rw [hm, hnil]; exact ⟨rfl, .inl ⟨⟨c, rfl, hce⟩, rfl⟩⟩, World.grownBy.refl w _, fun k hk => .inl hk⟩
      cases c <;> simp [Builtin.append_, run_underlying ht, run_underlying hu, sizeOf, typeInfo, hi, hsize, Builtin.lenOf, hm, hf, hnil, storeCells]
    · have hgr := grown 0 (by omega) (blk (.slice c 0 0))
      cases c with
      | none =>
        have hr := run_append_nil_string (P := P) w t u ty e i (.int .u8 0) ht hu hi hz s (by omega) (by omega) (by rw [hby]; omega)
        simp only [Nat.zero_add, List.nil_append, Array.empty_append] at hgr ⊢
        have e1 : (s.data.map fun b => Value.int .u8 b.toNat) = (strCells s).toArray := by
          apply Array.ext'
          simp [strCells]
        rw [e1] at hr
        exact ⟨_, _, hr, hgr.1, hgr.2, newB _ _⟩
      | some a =>
        have hr := run_append_grow_string (P := P) w t u ty e i (.int .u8 0) ht hu hi hz a 0 0 [] (by simp) (by simp) s (by omega) (by omega) (by rw [hby]; exact growslice_fits (by omega) (by omega))
        exact ⟨_, _, hr, hgr.1, hgr.2, newB _ _⟩
  · by_cases hroom : n + s.size ≤ cap
    · have hr := run_append_room_string (P := P) w t u ty e i ht hu hi hsize g n cap cur hg s hroom (by omega)
      refine ⟨_, _, hr, ⟨hlen, .inr ⟨g, cap, _, rfl, hcp, setRow_heap w g cur _ e _ hg, hroom, hcm, ?_, ?_⟩⟩, ⟨rfl, rfl, rfl, by simp, fun k _ hk => setRow_other w g k _ (fun e => hk (by simp [blk, e, Nat.ne_of_gt hcp]))⟩, fun k hk => .inl ?_⟩
      · simp only [List.size_toArray, List.length_append, List.length_take, List.length_drop, Array.length_toList, strCells_length]
        omega
      · have ht' : cur.toList.take n = xs := by simpa using htake
        rw [ht', ← hlen]
        exact List.take_left
      · simpa [blk, Nat.ne_of_gt hcp] using hk
    · have holds : ∀ j u, xs[j]? = some u → w.cell? ((⟨g, 0, none⟩ : Addr).add j) = some u := by
        have hown : w.ownsRow 0 e 1 (.slice (some ⟨g, 0, none⟩) n cap) n xs := ⟨hrow.1, .inr ⟨g, cap, cur, rfl, Nat.zero_le _, hg, hnc, hcm, hcs, htake⟩⟩
        exact hown.cells (g := g) rfl
      have hr := run_append_grow_string (P := P) w t u ty e i (.int .u8 0) ht hu hi hz ⟨g, 0, none⟩ n cap xs (by rw [hsize]; simpa using hxl) holds s (by omega) (by omega) (by rw [hby]; exact growslice_fits (by omega) (by omega))
      have hgr := grown cap (by omega) (blk (.slice (some ⟨g, 0, none⟩) n cap))
      exact ⟨_, _, hr, hgr.1, hgr.2, newB _ _⟩

def sbL (b : ByteArray) : List Int := b.data.toList.map fun u => (u.toNat : Int)
theorem sb_cells {w : World} {ro : Nat → Prop} (b : ByteArray) : ((sbL b).map fun z => [RV.v (.int .u8 z)]).length = b.size ∧ ∀ (j : Nat) (x : RV), ((sbL b).map fun z => [RV.v (.int .u8 z)]).flatten[j]? = some x → RRel w ro x ((strCells b).getD j undef) := by
 refine ⟨by rw [List.length_map]; unfold sbL; rw [List.length_map, Array.length_toList]; rfl, fun j x hj => ?_⟩
 have hfl : ((sbL b).map fun z => [RV.v (.int .u8 z)]).flatten = (sbL b).map fun z => RV.v (.int .u8 z) := by
  generalize sbL b = l
  induction l with
  | nil => rfl
  | cons y r ih => simp only [List.map_cons, List.flatten_cons, ih, List.singleton_append]
 rw [hfl] at hj
 unfold sbL at hj
 simp only [List.map_map, List.getElem?_map] at hj
 obtain ⟨u, hu, rfl⟩ := Option.map_eq_some_iff.1 hj
 have : (strCells b).getD j undef = .int .u8 (u.toNat : Int) := by
  unfold strCells
  simp [List.getD, hu]
 rw [this]
 exact .v _ rfl
variable {G : Glob} {s : St} {o : Oper}
def byteT (P : Program) (t u : TypeId) : Option TypeId :=
 match P.underlying t, P.underlying u with
 | some (.slice e), some .string => match P.info? e with
  | some i => match i.zero with
   | some (.int .u8 0) => match Nat.beq i.size 1 && Nat.beq i.bytes 1 with
    | true => some e
    | false => none
   | _ => none
  | none => none
 | _, _ => none
theorem byteT_spec {t u e : TypeId} (h : byteT P t u = some e) : ∃ i, P.underlying t = some (.slice e) ∧ P.underlying u = some .string ∧ P.info? e = some i ∧ i.zero = some (.int .u8 0) ∧ i.size = 1 ∧ i.bytes = 1 := by
 unfold byteT at h
 split at h
 ·rename_i e' hu hs
  split at h
  ·rename_i i hi
   split at h
   ·rename_i hz
    split at h
    ·rename_i hc
     cases h
     simp only [Bool.and_eq_true] at hc
     exact ⟨i, hu, hs, hi, hz, Nat.eq_of_beq_eq_true hc.1, Nat.eq_of_beq_eq_true hc.2⟩
    ·cases h
   ·cases h
  ·cases h
 ·cases h
theorem R_appendS (x y : Operand) (t u : TypeId) (ho : o.op = .call { callee := .builtin .append, args := #[x, y], argTypes := #[t, u] }) {e : TypeId} (ht : byteT P t u = some e)
    {id : Nat} (hx : aval G s x = .sl id) {es : List (List RV)} (hid : hget s.heap id = some (.row false e 1 es)) (hb : s.base ≤ id) (hlt : id < s.next)
    {b : ByteArray} (hy : aval G s y = .rv (.v (.string b))) (hsz : es.length + b.size ≤ maxLen ∧ es.length + b.size ≤ 140737488355328) :
    OpStep P G o s (St.put ⟨killL id s.slots, (id, .row false e 1 (es ++ (sbL b).map fun z => [RV.v (.int .u8 z)])) :: killH id s.heap, s.next, s.base⟩ o.dst (.sl id)) := by
  intro E a w ⟨β, ro, hr⟩ K Q hK
  obtain ⟨i, hu, hs, hi, hz, hsize, hby⟩ := byteT_spec ht
  have hO := hr.heap.objs id _ hid
  cases hO with
  | row _ _ _ xs hrow hne hcells =>
    have hxv : a.eval x = β id := by
      have h := hr.eval x
      rw [hx] at h
      generalize a.eval x = c at h
      cases h with
      | sl _ _ _ hp => exact hp _ _ _ _ hid
    obtain ⟨v', w', hrun, hrow', hgr, hbk⟩ := run_append_rowS (P := P) t u o.type e hu hs hi hz hsize hby hrow b hsz.1 hsz.2
    obtain ⟨q1, q2⟩ := sb_cells (w := w) (ro := ro) b
    unfold Oper.wp
    simp only [execOp, ho, resolve, invoke, builtin, Sem.run_bind, Sem.run_pure, Result.andThen_ok, List.map_toArray, List.map_cons, List.map_nil, hxv, hr.evalV hy, hrun]
    have hother : ∀ k, k < w.heap.size → blk (β id) ≠ some k → w'.heap[k]? = w.heap[k]? := fun k hk hne => hgr.block k hk (fun e => hne e.symm)
    have hro : ∀ k, ro k → w'.heap[k]? = w.heap[k]? := fun k hk => hother k (hr.heap.lt k hk) fun hbk => hr.heap.disj k hk ⟨id, _, hid, rfl, hbk⟩
    refine hK _ _ ⟨upd β id v', ro, RelAt.put (hr.renew (w' := w') id hb hlt hid (.row false e 1 (es ++ (sbL b).map fun z => [RV.v (.int .u8 z)])) v' hgr.os hgr.tape hgr.output hgr.size hother hbk rfl ?_) o.dst _ _ ?_⟩
    · refine .row e 1 _ _ (by rw [upd_same, List.length_append, q1]; exact hrow') (fun e' he' => ?_) (fun j x hj => ?_)
      · rw [List.mem_append] at he'
        rcases he' with h | h
        · exact hne _ h
        · obtain ⟨z, _, rfl⟩ := List.mem_map.1 h
          rfl
      · exact (flatten_append_rel hne hrow.1 hcells q2 j x hj).keep hro fun _ h => h
    · exact .sl _ _ hlt fun z t' n' es' _ => (upd_same _ _ _).symm
theorem R_appendS_nil (x y : Operand) (t u : TypeId) (ho : o.op = .call { callee := .builtin .append, args := #[x, y], argTypes := #[t, u] }) {e : TypeId} (ht : byteT P t u = some e)
    (hx : aval G s x = .rv (.v (.slice none 0 0))) (hb : s.base ≤ s.next) {b : ByteArray} (hy : aval G s y = .rv (.v (.string b))) (hsz : b.size ≤ maxLen ∧ b.size ≤ 140737488355328) :
    OpStep P G o s ({ s with heap := (s.next, .row false e 1 ((sbL b).map fun z => [RV.v (.int .u8 z)])) :: s.heap, next := s.next + 1 }.put o.dst (.sl s.next)) := by
  intro E a w ⟨β, ro, hr⟩ K Q hK
  obtain ⟨i, hu, hs, hi, hz, hsize, hby⟩ := byteT_spec ht
  obtain ⟨v', w', hrun, hrow', hgr, hbk⟩ := run_append_rowS (P := P) (w := w) t u o.type e hu hs hi hz hsize hby (v := .slice none 0 0) (n := 0) (xs := []) ⟨by simp, .inl ⟨⟨none, rfl, fun _ h => (by cases h)⟩, rfl⟩⟩ b (by omega) (by omega)
  obtain ⟨q1, q2⟩ := sb_cells (w := w) (ro := ro) b
  unfold Oper.wp
  simp only [execOp, ho, resolve, invoke, builtin, Sem.run_bind, Sem.run_pure, Result.andThen_ok, List.map_toArray, List.map_cons, List.map_nil, hr.evalV hx, hr.evalV hy, hrun]
  have hnone : hget s.heap s.next = none := by
    cases hg : hget s.heap s.next with
    | none => rfl
    | some p => have := hr.trans.new _ _ hg; omega
  have hw : ∀ b, b < w.heap.size → w'.heap[b]? = w.heap[b]? := fun b hb => hgr.block b hb (by simp [blk])
  have hro : ∀ b, ro b → w'.heap[b]? = w.heap[b]? := fun b hb => hw b (hr.heap.lt b hb)
  refine hK _ _ ⟨upd β s.next v', ro, RelAt.put (hr.new (w' := w') s.next hnone hb (Nat.le_refl _) (.row false e 1 ((sbL b).map fun z => [RV.v (.int .u8 z)])) v' hgr.os hgr.tape hgr.output hgr.size hw (fun b hb => ?_) rfl ?_) o.dst _ _ ?_⟩
  · rcases hbk b hb with h | h
    · simp [blk] at h
    · exact h
  · refine .row e 1 _ _ (by rw [upd_same, q1]; simpa using hrow') (fun e' he' => ?_) (fun j x hj => (q2 j x hj).keep hro fun _ h => h)
    obtain ⟨z, _, rfl⟩ := List.mem_map.1 he'
    rfl
  · exact .sl _ _ (Nat.lt_succ_self _) fun z t' n' es' _ => (upd_same _ _ _).symm
end
end Go.Av
