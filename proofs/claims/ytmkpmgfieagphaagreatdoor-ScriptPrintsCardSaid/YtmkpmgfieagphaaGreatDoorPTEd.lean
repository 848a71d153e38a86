/- TD, part Z: regions of drawn order, sound. Conditions: none. -/
import Derived.Test.YtmkpmgfieagphaaGreatDoorPTDy
namespace Go.Av
open Go

def constV (v : SV) : Bool :=
 match v.rt with
 | some (.int _) => true
 | some .bool => true
 | some .str => true
 | _ => false
def ixR (P : Program) (S : SS) (t : TypeId) (id : Nat) (i : SV) : Option Rs :=
 match i.rt, elemSize P t, getH S.h id with
 | some (.int k), some n, some (.rw _ c y) => match Nat.beq n (nT c) with
  | true => some ⟨[], idxN S.g (.lnL c) (.ixL c k) y i, .pe id i 0⟩
  | false => none
 | _, _, _ => none
def ixA (P : Program) (S : SS) (t : TypeId) (x i : SV) : Option Rs :=
 match i.rt, elemSize P t, liOf x with
 | some (.int k), some n, some c => match Nat.beq n (nT c) with
  | true => some ⟨[.f2 (.ixL c k) x i], idxN S.g (.lnL c) (.ixL c k) x i, .ip c S.k 0⟩
  | false => none
 | _, _, _ => none
def ixP (P : Program) (S : SS) (t : TypeId) (id off : Nat) (i : SV) : Option Rs :=
 match i.rt, arrElem P t, cellsAt S (.px id off) with
 | some (.int _), some (len, n), some _ => match i with
  | .cs (.int _ (.ofNat j)) => match Nat.blt j len, shiftS (j * n) (.px id off) with
   | true, some p => some ⟨[], [], p⟩
   | _, _ => none
  | i => some ⟨[], nthN S.g len i, .pv id off i n⟩
 | _, _, _ => none
def slA (P : Program) (N : Nat) (S : SS) (t : TypeId) (x : SV) (lo hi : Option Operand) : Option Rs :=
 match optS N S lo, optS N S hi, x.rt, elemSize P t with
 | some l, some h, some (.li c), some n => match Nat.beq n (nT c) with
  | true => some ⟨[.sbL c x l h], [.sbL c x l h], .va (.li c) S.k⟩
  | false => none
 | _, _, _, _ => none
def lop (P : Program) (N : Nat) (S : SS) (o : Oper) : Option Rs :=
 match o.op with
 | .move x => some ⟨[], [], S.opv N x⟩
 | .assign x => some ⟨[], [], S.opv N x⟩
 | .nilCheck x => match isPtrS S (S.opv N x) with
  | true => some ⟨[], [], S.opv N x⟩
  | false => none
 | .fieldAddr t x f => match fldOff P t f, isPtrS S (S.opv N x) with
  | some k, true => match shiftS k (S.opv N x) with
   | some p => some ⟨[], [], p⟩
   | none => none
  | _, _ => none
 | .load t x => match cellsAt S (S.opv N x) with
  | some l => match takeT P t l with
   | some v => some ⟨[], [], v⟩
   | none => none
  | none => match vop P N S o with
   | some r => match constV r.v with
    | true => some r
    | false => none
   | none => none
 | .indexAddr t x i => match S.opv N x with
  | .sl id => ixR P S t id (S.opv N i)
  | .px id off => ixP P S t id off (S.opv N i)
  | y => ixA P S t y (S.opv N i)
 | .slice t x lo hi none => match slA P N S t (S.opv N x) lo hi with
  | some r => some r
  | none => match vop P N S o with
   | some r => match constV r.v with
    | true => some r
    | false => none
   | none => none
 | _ => match vop P N S o with
  | some r => match constV r.v with
   | true => some r
   | false => none
  | none => none
def wrOf (o : Oper) : Bool :=
 match o.op with
 | .store _ _ _ => true
 | .alloc _ => true
 | .box _ _ => true
 | .buildSlice _ _ _ => true
 | .mapUpdate _ _ _ _ => true
 | .call c => match c.callee with
  | .builtin .append => true
  | .builtin .copy => true
  | _ => false
 | _ => false
mutual
def SV.pure : SV → Bool
 | .va _ _ => true
 | .fd _ _ _ _ => true
 | .cs _ => true
 | .ip _ _ _ => true
 | .ag l => SV.pureL l
 | .tp l => SV.pureL l
 | .fn _ a b => SV.pureL a && SV.pureL b
 | _ => false
def SV.pureL : List SV → Bool
 | [] => true
 | x :: r => SV.pure x && SV.pureL r
end
def backP (S : SS) (dst : Option Nat) (C : SS) : Tr :=
 match SV.pure (C.at 0) with
 | true => .lf .nrm ((⟨S.l, S.h, S.n, C.k, C.g⟩ : SS).put dst (C.at 0))
 | false => .bad 74
def exeX (P : Program) (N B : Nat) (T : List (Nat × TC)) (inl : Nat → List SV → SS → Tr) (o : Oper) (S : SS) : Tr :=
 match wrOf o with
 | true => match sop P N B T S o with
  | some r => match ltX S.k r.xs && (r.v.lt (S.k + r.xs.length) && ltH (S.k + r.xs.length) r.h) with
   | true => emit S.k r.xs r.ns (.lf .nrm ((r.st S o.dst).adv S.k r.xs))
   | false => .bad 31
  | none => .bad (100 + opN o)
 | false => match vop P N S o with
  | some r => match ltX S.k r.xs && r.v.lt (S.k + r.xs.length) with
   | true => emit S.k r.xs r.ns (.lf .nrm ((S.adv S.k r.xs).put o.dst r.v))
   | false => .bad 30
  | none => match calleeOf N S o with
   | some (f, as) => match callable P f && SV.pureL as with
    | true => (inl f as ⟨.emp, [], 0, S.k, S.g⟩).graft (backP S o.dst) none
    | false => .bad 32
   | none => .bad (100 + opN o)
def oneX (P : Program) (N B : Nat) (T : List (Nat × TC)) (inl : Nat → List SV → SS → Tr) (ops : Array Oper) (o : Oper) (S : SS) : Tr :=
 match guardOf N ops S o with
 | .yes => exeX P N B T inl o S
 | .no => match wrOf o with
  | false => .lf .nrm (S.put o.dst (.tp []))
  | true => .bad 73
 | .on gs => match ltGs S.k gs && !(wrOf o) with
  | true => match vop P N { S with g := boL gs S.g } o with
   | some r => match ltX S.k r.xs && r.v.lt (S.k + r.xs.length) with
    | true => emit S.k r.xs (r.ns.map (giL gs)) (.lf .nrm ((S.adv S.k r.xs).put o.dst (gdL gs r.v)))
    | false => .bad 35
   | none => forkL (skipT S o.dst) gs (exeX P N B T inl o { S with g := boL gs S.g }) S.g
  | false => .bad 36
 | .bad => .bad 37
def takeX (P : Program) (N : Nat) (ops : Array Oper) (o : Oper) (S : SS) (k : SS → Tr) : Tr :=
 match guardOf N ops S o with
 | .yes => match lop P N S o with
  | some r => match ltX S.k r.xs && r.v.lt (S.k + r.xs.length) with
   | true => emit S.k r.xs r.ns (k ((S.adv S.k r.xs).put o.dst r.v))
   | false => .bad 30
  | none => .bad 76
 | .no => k (S.put o.dst (.tp []))
 | .on gs => match ltGs S.k gs with
  | true => match lop P N { S with g := boL gs S.g } o with
   | some r => match ltX S.k r.xs && r.v.lt (S.k + r.xs.length) with
    | true => emit S.k r.xs (r.ns.map (giL gs)) (k ((S.adv S.k r.xs).put o.dst (gdL gs r.v)))
    | false => .bad 35
   | none => .bad 76
  | false => .bad 36
 | .bad => .bad 37
def pop (P : Program) (N : Nat) (S : SS) (o : Oper) : Bool :=
 match o.op with
 | .move _ => true
 | .assign _ => true
 | .nilCheck _ => true
 | .fieldAddr _ _ _ => true
 | .indexAddr _ _ _ => true
 | .slice t x lo hi none => (slA P N S t (S.opv N x) lo hi).isSome
 | _ => false
def popG (P : Program) (N : Nat) (ops : Array Oper) (S : SS) (o : Oper) : Bool :=
 match guardOf N ops S o with
 | .yes => pop P N S o
 | .no => true
 | .on gs => pop P N { S with g := boL gs S.g } o
 | .bad => false
def canX (P : Program) (N : Nat) (ops : Array Oper) (wr m : List Bool) (S : SS) (i : Nat) : Bool :=
 match ops[i]? with
 | some o => (Region.free .any ops m.toArray i && (!(wr.getD i false) && (popG P N ops S o || dfree ops wr m i))) && (match guardOf N ops S o with
  | .yes => (lop P N S o).isSome
  | .no => true
  | .on gs => (lop P N { S with g := boL gs S.g } o).isSome
  | .bad => false)
 | none => false
def findX (P : Program) (N : Nat) (ops : Array Oper) (wr m : List Bool) (S : SS) : List Nat → Option Nat
 | [] => none
 | i :: r => match canX P N ops wr m S i with
  | true => some i
  | false => findX P N ops wr m S r
def gsOf (N : Nat) (ops : Array Oper) (S : SS) (o : Oper) : List (SV × Bool) :=
 match guardOf N ops S o with
 | .on gs => gs
 | _ => []
def eqFc : Fc → Fc → Bool
 | .d1 i f x, .d1 j g y => Nat.beq i j && (decide (f = g) && eqS x y)
 | .d2 i f x y, .d2 j g u v => (Nat.beq i j && decide (f = g)) && (eqS x u && eqS y v)
 | .rg i b, .rg j c => Nat.beq i j && eqS b c
 | .bo g b, .bo h c => eqS g h && decide (b = c)
 | _, _ => false
def eqFs : List Fc → List Fc → Bool
 | [], [] => true
 | x :: l, y :: m => eqFc x y && eqFs l m
 | _, _ => false
def eqSO : SO → SO → Bool
 | .bx t l, .bx u m => Nat.beq t u && eqSs l m
 | .rw t c x, .rw u d y => Nat.beq t u && (decide (c = d) && eqS x y)
 | .it x p, .it y q => eqS x y && eqS p q
 | _, _ => false
def eqHS : List (Nat × SO) → List (Nat × SO) → Bool
 | [], [] => true
 | (i, x) :: l, (j, y) :: m => Nat.beq i j && (eqSO x y && eqHS l m)
 | _, _ => false
def eqTri : Tri SV → Tri SV → Bool
 | .emp, .emp => true
 | .n v l r, .n w m s => (match v, w with
  | some x, some y => eqS x y
  | none, none => true
  | _, _ => false) && (eqTri l m && eqTri r s)
 | _, _ => false
def eqSt (S U : SS) : Bool := (eqTri S.l U.l && eqHS S.h U.h) && ((Nat.beq S.n U.n && Nat.beq S.k U.k) && eqFs S.g U.g)
def sameTs (S : SS) : List Tr → Bool
 | [] => true
 | .lf .nrm U :: r => eqSt U S && sameTs S r
 | _ => false
def sameT : List Tr → Tr
 | .lf .nrm S :: r => match sameTs S r with
  | true => .lf .nrm S
  | false => .bad 72
 | _ => .bad 71
def drT (P : Program) (N B : Nat) (T : List (Nat × TC)) (inl : Nat → List SV → SS → Tr) (ops : Array Oper) (wr : List Bool) : Nat → List Bool → SS → Tr
 | 0, m, S => match Region.ready .any ops m.toArray with
  | [] => .lf .nrm S
  | _ => .bad 70
 | n + 1, m, S => match Region.ready .any ops m.toArray with
  | [] => .lf .nrm S
  | i :: rd => match findX P N ops wr m S (i :: rd) with
   | some j => match ops[j]?, (Region.ready .any ops m.toArray).contains j && (Region.free .any ops m.toArray j && !(wr.getD j false)) with
    | some o, true => match popG P N ops S o || dfree ops wr m j with
     | true => takeX P N ops o S (drT P N B T inl ops wr n (m.set j true))
     | false => .bad 79
    | _, _ => .bad 77
   | none => match rd, ops[i]? with
    | [], some o => match decide (wr.getD i false = wrOf o) with
     | true => seqG N S o.dst (gsOf N ops S o) (oneX P N B T inl ops o S) (drT P N B T inl ops wr n (m.set i true))
     | false => .bad 78
    | _, _ => sameT ((i :: rd).map fun j => match ops[j]? with
     | some o => match decide (wr.getD j false = wrOf o) with
      | true => seqG N S o.dst (gsOf N ops S o) (oneX P N B T inl ops o S) (drT P N B T inl ops wr n (m.set j true))
      | false => .bad 78
     | none => .bad 77)
def drawT (P : Program) (N B : Nat) (T : List (Nat × TC)) (inl : Nat → List SV → SS → Tr) (ops : Array Oper) (S : SS) : Tr :=
 match P.follows .mixedOrders && Region.noSelect ops with
 | true => drT P N B T inl ops (ops.toList.map wrOf) ops.size (List.replicate ops.size false) S
 | false => .bad 75

section
variable {P : Program} {G : Glob} {N B : Nat} {M : List Md} {T : List (Nat × TC)} {inl : Nat → List SV → SS → Tr}
theorem constV_den {v : SV} {e : Env} (h : constV v = true) : ∃ c, v.den G e = .rv (.v c) := by
 unfold constV at h
 split at h
 ·rename_i hr; exact ⟨_, rt_den hr⟩
 ·rename_i hr; exact ⟨_, rt_den hr⟩
 ·rename_i hr; exact ⟨_, rt_den hr⟩
 ·cases h
theorem scalar_agg {t : TypeId} {n : Nat} (h : aggSize P t = some n) : scalar P t = false := by
 unfold aggSize at h
 unfold scalar
 split at h <;> simp_all
theorem LStep.det {ops : Array Oper} {o : Oper} {s : St} {v : AV} (h : VDet P G o s v) (hg : gwant ops s o = some true) : LStep P G ops o s (s.put o.dst v) := by
 intro E a w ⟨β, ro, hr⟩
 have hw := wanted_of (ops := ops) ⟨β, ro, hr⟩ hg
 obtain ⟨c, h1, h2⟩ := h E a w β ro hr
 exact ⟨c, .inl ⟨hw, fun w1 _ => h1 w1⟩, β, ro, hr.put _ _ _ h2⟩
theorem ixA_ok {o : Oper} {S : SS} {t : TypeId} {x i : Operand} {r : Rs} {e : Env} (ho : o.op = .indexAddr t x i) (h : ixA P S t (S.opv N x) (S.opv N i) = some r) (hf : S.fok e) (hx : ∀ (j : Nat) (x : Ex), r.xs[j]? = some x → Env.at e (S.k + j) = x.den M e) (hn : ∀ n ∈ r.ns, n.ok M e) : VDet P G o (S.den G N B e) (r.v.den G e) := by
 unfold ixA at h
 split at h
 ·rename_i k n c hi hnz hc
  split at h
  ·rename_i hb
   cases h
   have hb := Nat.eq_of_beq_eq_true hb
   rw [hb] at hnz
   have hi' : aval G (S.den G N B e) i = _ := (opv_den hf i).trans (rt_int hi)
   obtain ⟨hd, hrt⟩ := liOf_den (G := G) (e := e) hc
   obtain ⟨g1, g2⟩ := idxN_L hf hi hn
   have := R_indexT c _ k _ ho hnz hi' ((opv_den hf x).trans hd) g1 g2
   have h0 : Env.at e S.k = _ := hx 0 _ rfl
   have h1 := ip_den (G := G) (x := List.getD ((S.opv N x).get1 e (.li c)) (Int.toNat ((S.opv N i).get1 e (.int k))) (dT c)) h0
   show VDet P G o _ ((SV.ip c S.k 0).den G e)
   rw [h1]
   exact this
  ·cases h
 ·cases h
theorem R_indexAddrD {o : Oper} {s : St} (t : TypeId) (x i : Operand) (ho : o.op = .indexAddr t x i) {n : Nat} (ht : elemSize P t = some n) {k : IntKind} {j : Nat} (hi : aval G s i = .rv (.v (.int k (j : Int)))) {p : AV} (hp : aelem s.heap n j (aval G s x) = some p) :
    VDet P G o s p :=
  fun _ a w β ro hr => by
    obtain ⟨ad, len, cap, hc, hj, hrel⟩ := aelem_rel hr.heap (hr.eval x) hp
    obtain ⟨e, hu, hsz⟩ := elemSize_run ht
    refine ⟨_, fun w1 => ?_, hrel⟩
    have hij : (0 : Int) ≤ j ∧ (j : Int) < len := ⟨by omega, by omega⟩
    simp [execOp, ho, hc, hr.evalV hi, Instr.indexAt, asIntOf, run_underlying hu, hj, hsz]
theorem ixR_ok {o : Oper} {S : SS} {t : TypeId} {x i : Operand} {id : Nat} {r : Rs} {e : Env} (ho : o.op = .indexAddr t x i) (hid : S.opv N x = .sl id) (h : ixR P S t id (S.opv N i) = some r) (hf : S.fok e) (hx : ∀ (j : Nat) (x : Ex), r.xs[j]? = some x → Env.at e (S.k + j) = x.den M e) (hn : ∀ n ∈ r.ns, n.ok M e) : VDet P G o (S.den G N B e) (r.v.den G e) := by
 unfold ixR at h
 split at h
 ·rename_i k n t' c y hi hnz hg
  split at h
  ·rename_i hb
   cases h
   have hb := Nat.eq_of_beq_eq_true hb
   have hi' : aval G (S.den G N B e) i = _ := (opv_den hf i).trans (rt_int hi)
   obtain ⟨g1, g2⟩ := idxN_L hf hi hn
   obtain ⟨j, hj⟩ : ∃ j : Nat, (S.opv N i).get1 e (.int k) = (j : Int) := ⟨_, (Int.toNat_of_nonneg g1).symm⟩
   rw [hj] at hi' g2
   have g2 : (j : Int) < ((List.length (y.get1 e (.li c)) : Nat) : Int) := g2
   have := R_indexAddrD (P := P) (o := o) t x i ho hnz hi' (p := .eptr id j 0) (by
    rw [opv_den hf, hid]
    simp only [SV.den, aelem, SS.den, denH_get, hg, Option.map_some, SO.den]
    rw [if_pos ⟨hb.symm, by rw [List.length_map]; omega⟩])
   simp only [SV.den, rt_intD hi, hj, Int.toNat_natCast]
   exact this
  ·cases h
 ·cases h
theorem R_indexAddr_arrD {o : Oper} {s : St} (t : TypeId) (x i : Operand) (ho : o.op = .indexAddr t x i) {len n : Nat} (ht : arrElem P t = some (len, n)) {k : IntKind} {j : Nat} (hi : aval G s i = .rv (.v (.int k (j : Int)))) (hj : j < len)
    {cs : List AV} (hcs : acells s.heap (aval G s x) = some cs) {p : AV} (hp : ashift (j * n) (aval G s x) = some p) :
    VDet P G o s p :=
  fun _ a w β ro hr => by
    obtain ⟨ad, hc, hrel⟩ := ashift_rel hp hcs (hr.eval x)
    unfold arrElem at ht
    split at ht
    · rename_i m e hu
      cases hie : P.info? e with
      | none => simp [hie] at ht
      | some ie =>
        simp [hie] at ht
        obtain ⟨rfl, rfl⟩ := ht
        refine ⟨_, fun w1 => ?_, hrel⟩
        simp [execOp, ho, hc, hr.evalV hi, Instr.indexAt, asIntOf, run_underlying hu, Instr.sureAddr, hj, sizeOf, typeInfo, hie]
    · cases ht
theorem ixP_ok {o : Oper} {S : SS} {t : TypeId} {x i : Operand} {id off : Nat} {r : Rs} {e : Env} (ho : o.op = .indexAddr t x i) (hid : S.opv N x = .px id off) (h : ixP P S t id off (S.opv N i) = some r) (hf : S.fok e) (hn : ∀ n ∈ r.ns, n.ok M e) : VDet P G o (S.den G N B e) (r.v.den G e) := by
 unfold ixP at h
 split at h
 ·rename_i k len n l hi ha hl
  have hi' : aval G (S.den G N B e) i = _ := (opv_den hf i).trans (rt_int hi)
  have hcs := cellsAt_den (G := G) (N := N) (B := B) (e := e) hl
  have hxd : aval G (S.den G N B e) x = (SV.px id off).den G e := by rw [opv_den hf, hid]
  rw [← hxd] at hcs
  split at h
  ·rename_i k' j hj
   split at h
   ·rename_i p hjl hp
    cases h
    refine R_indexAddr_arrD t x i ho ha (k := k') (j := j) (by rw [opv_den hf, hj]; rfl) (blt_lt hjl) hcs ?_
    have hs := shiftS_den (G := G) (e := e) hp
    rw [← hs, hxd]
    rfl
   ·cases h
  ·cases h
   have hn0 : 0 ≤ intD ((S.opv N i).dyn e) ∧ intD ((S.opv N i).dyn e) < (len : Int) := nthN_ok hf hn
   obtain ⟨j, hj⟩ : ∃ j : Nat, intD ((S.opv N i).dyn e) = (j : Int) := ⟨_, (Int.toNat_of_nonneg hn0.1).symm⟩
   rw [← rt_intD hi, hj] at hi'
   refine R_indexAddr_arrD t x i ho ha hi' (by omega) hcs ?_
   rw [hxd]
   simp only [SV.den, ashift, hj, Int.toNat_natCast]
 ·cases h
theorem slA_ok {o : Oper} {S : SS} {t : TypeId} {x : Operand} {lo hi : Option Operand} {r : Rs} {e : Env} (ho : o.op = .slice t x lo hi none) (h : slA P N S t (S.opv N x) lo hi = some r) (hf : S.fok e) (hx : ∀ (j : Nat) (x : Ex), r.xs[j]? = some x → Env.at e (S.k + j) = x.den M e) (hn : ∀ n ∈ r.ns, n.ok M e) : VDet P G o (S.den G N B e) (r.v.den G e) := by
 unfold slA at h
 split at h
 ·rename_i l h' c n hl hh hr hnz
  split at h
  ·rename_i hb
   cases h
   rw [Nat.eq_of_beq_eq_true hb] at hnz
   have h0 : Env.at e S.k = _ := hx 0 _ rfl
   simp only [SV.den, h0, Ex.den, as_mk]
   exact V_sbL c _ ho hnz ((opv_den hf x).trans (rt_den hr)) (optS_bnd hf hl) (optS_bnd hf hh) (hn _ (List.mem_singleton.2 rfl))
  ·cases h
 ·cases h
theorem lop_ok {ops : Array Oper} {o : Oper} {S : SS} {r : Rs} {e : Env} (h : lop P N S o = some r) (hf : S.fok e) (hx : ∀ (j : Nat) (x : Ex), r.xs[j]? = some x → Env.at e (S.k + j) = x.den M e) (hn : ∀ n ∈ r.ns, n.ok M e) (hg : gwant ops (S.den G N B e) o = some true) :
    LStep P G ops o (S.den G N B e) ((S.den G N B e).put o.dst (r.v.den G e)) := by
  have key : (match vop P N S o with
    | some r => match constV r.v with
      | true => some r
      | false => none
    | none => none) = some r → LStep P G ops o (S.den G N B e) ((S.den G N B e).put o.dst (r.v.den G e)) := fun h => by
    split at h
    · rename_i r' hv
      split at h
      · rename_i hc
        cases h
        have hst := vop_ok (G := G) (B := B) (M := M) hv e hf hx hn
        obtain ⟨c, hcd⟩ := constV_den (G := G) (e := e) hc
        rw [hcd] at hst ⊢
        exact LStep.vstep hst hg
      · cases h
    · cases h
  unfold lop at h
  split at h
  · rename_i x ho
    cases h
    have : pval P G o (S.den G N B e) = some ((S.opv N x).den G e) := by unfold pval; rw [ho, ← opv_den hf]
    exact (PStep.val this hg).l
  · rename_i x ho
    cases h
    have : pval P G o (S.den G N B e) = some ((S.opv N x).den G e) := by unfold pval; rw [ho, ← opv_den hf]
    exact (PStep.val this hg).l
  · rename_i x ho
    split at h
    · rename_i hp
      cases h
      have : pval P G o (S.den G N B e) = some ((S.opv N x).den G e) := by
        unfold pval
        rw [ho]
        simp only [opv_den hf, isPtrS_den hp]
      exact (PStep.val this hg).l
    · cases h
  · rename_i t x f ho
    split at h
    · rename_i k hk hp
      split at h
      · rename_i p hs
        cases h
        have : pval P G o (S.den G N B e) = some (p.den G e) := by
          unfold pval
          rw [ho]
          simp only [hk, opv_den hf, isPtrS_den hp, shiftS_den hs]
        exact (PStep.val this hg).l
      · cases h
    · cases h
  · rename_i t x ho
    split at h
    · rename_i l hl
      split at h
      · rename_i v hv
        cases h
        have hc := cellsAt_den (G := G) (N := N) (B := B) (e := e) hl
        have : lval P G o (S.den G N B e) = some (v.den G e) := by
          unfold lval
          rw [ho]
          simp only [opv_den hf, hc]
          rcases takeT_den (G := G) (e := e) hv with ⟨n, g1, g2, g3, g4⟩ | ⟨g1, g2, r', g3⟩
          · cases l with
            | nil => simp at g2; omega
            | cons y l =>
              have hs : scalar P t = false := scalar_agg g1
              rw [g4]
              simp only [SV.denL, hs, g1]
              rw [if_pos ⟨by simpa [denL_len] using g2, g3⟩]
          · subst g3
            simp only [SV.denL, g2]
        exact LStep.load this hg
      · cases h
    · exact key h
  · rename_i t x i ho
    split at h
    · rename_i id hid
      exact LStep.det (ixR_ok ho hid h hf hx hn) hg
    · rename_i id off hid
      exact LStep.det (ixP_ok ho hid h hf hn) hg
    · exact LStep.det (ixA_ok ho h hf hx hn) hg
  · rename_i t x lo hi ho
    split at h
    · rename_i r' hs
      cases h
      exact LStep.det (slA_ok ho hs hf hx hn) hg
    · exact key h
  · exact key h
mutual
theorem pure_den {e : Env} : ∀ {x : SV}, SV.pure x = true → pureA (x.den G e) = true := fun {x} h => by
 cases x with
 | ag l => simp only [SV.den, pureA]; exact pureL_den (l := l) h
 | tp l => simp only [SV.den, pureA]; exact pureL_den (l := l) h
 | fn f a b =>
  simp only [SV.pure, Bool.and_eq_true] at h
  simp only [SV.den, pureA, pureL_den h.1, pureL_den h.2, Bool.and_self]
 | px k o => cases h
 | pe k x o => cases h
 | pv k o x n => cases h
 | bs k n => cases h
 | gp g i o => cases h
 | sl k => cases h
 | rf k => cases h
 | gd g b x => cases h
 | gl g o => cases h
 | top => cases h
 | _ => rfl
theorem pureL_den {e : Env} : ∀ {l : List SV}, SV.pureL l = true → pureL (SV.denL G e l) = true := fun {l} h => by
 match l with
 | [] => rfl
 | x :: r =>
  simp only [SV.pureL, Bool.and_eq_true] at h
  simp only [SV.denL, pureL, pure_den h.1, pureL_den h.2, Bool.and_self]
end
def XA (G : Glob) (N B : Nat) (M : List Md) (t : Tr) (e : Env) (k0 : Nat) : St → Prop := fun st =>
 ∃ S1 e1, run M t e = some (.nrm, S1, e1) ∧ S1.Bd ∧ S1.fok e1 ∧ Agr k0 e e1 ∧ k0 ≤ S1.k ∧ st = S1.den G N B e1
theorem exeX_ok (hI : InlOk P G M inl) {ops : Array Oper} {o : Oper} {S : SS} {e : Env} (hb : S.Bd) (hf : S.fok e) (hs : (exeX P N B T inl o S).safe M e) (hg : gwant ops (S.den G N B e) o = some true) :
    (wrOf o = true → OSet P G ops o (S.den G N B e) (XA G N B M (exeX P N B T inl o S) e S.k)) ∧ (wrOf o = false → KSet P G ops o (S.den G N B e) (XA G N B M (exeX P N B T inl o S) e S.k)) := by
  refine ⟨fun hw => ?_, fun hw => ?_⟩
  · unfold exeX at hs ⊢
    rw [hw] at hs ⊢
    simp only at hs ⊢
    split at hs
    · rename_i r hq
      split at hs
      · rename_i hc
        simp only [Bool.and_eq_true] at hc
        obtain ⟨n1, n2⟩ := emit_safe hs
        have hag : Agr S.k e (envX M e S.k r.xs) := envX_agr (Nat.le_refl _)
        have hst := sop_ok (G := G) (M := M) hq (envX M e S.k r.xs) (fok_keep hag hb.g hf) (envX_at hc.1) n1
        rw [den_keep hag hb] at hst
        obtain ⟨w1, w2⟩ := ws_ok (M := M) (o := o) hb hf hc.1 hc.2.1 hc.2.2
        exact fun E a w hr => ⟨wanted_of hr hg, fun K Q hK => hst E a w hr K Q fun a' w' hr' => hK _ ⟨(r.st S o.dst).adv S.k r.xs, _, emit_run, w1, w2, hag, Nat.le_add_right _ _, rfl⟩ a' w' hr'⟩
      · exact hs.elim
    · exact hs.elim
  · unfold exeX at hs ⊢
    rw [hw] at hs ⊢
    simp only at hs ⊢
    split at hs
    · rename_i r hv
      split at hs
      · rename_i hc
        simp only [Bool.and_eq_true] at hc
        obtain ⟨n1, n2⟩ := emit_safe hs
        obtain ⟨a1, a2, a3⟩ := adv_ok (M := M) (G := G) (N := N) (B := B) hb hf hc.1
        have hag : Agr S.k e (envX M e S.k r.xs) := envX_agr (Nat.le_refl _)
        have hst := vop_ok (G := G) (B := B) (M := M) hv (envX M e S.k r.xs) (fok_keep hag hb.g hf) (envX_at hc.1) n1
        rw [den_keep hag hb] at hst
        exact KSet.v hst hg ⟨(S.adv S.k r.xs).put o.dst r.v, _, emit_run, put_bd a1 hc.2, put_fok a2, hag, by rw [put_k]; exact Nat.le_add_right _ _, by rw [den_put, a3]⟩
      · exact hs.elim
    · split at hs
      · rename_i f as hcal
        split at hs
        · rename_i hcb
          simp only [Bool.and_eq_true] at hcb
          obtain ⟨hcb, hpu⟩ := hcb
          obtain ⟨g1, g2, g3⟩ := graft_ok (inl f as ⟨.emp, [], 0, S.k, S.g⟩) none hs
          unfold calleeOf at hcal
          split at hcal
          · rename_i c hop
            split at hcal
            · rename_i x hx
              split at hcal
              · rename_i f' p q' hfv
                cases hcal
                obtain ⟨callee, args, ts⟩ := c
                simp only at hx
                subst hx
                have hlt : SV.ltL S.k (p ++ args.toList.map (S.opv N) ++ q') = true := by
                  have hx' := opv_lt (N := N) hb x
                  rw [hfv] at hx'
                  simp only [SV.lt, Bool.and_eq_true] at hx'
                  refine ltL_app (ltL_app hx'.1 ?_) hx'.2
                  generalize args.toList = l
                  induction l with
                  | nil => rfl
                  | cons y r ih => simp only [List.map_cons, SV.ltL, opv_lt hb y, ih, Bool.and_self]
                have hden : SV.denL G e (p ++ args.toList.map (S.opv N) ++ q') = SV.denL G e p ++ args.toList.map (aval G (S.den G N B e)) ++ SV.denL G e q' := by
                  rw [denL_map, denL_map, denL_map, List.map_append, List.map_append, List.map_map]
                  congr 2
                  exact List.map_congr_left fun y _ => (opv_den hf y).symm
                have hbe : (⟨.emp, [], 0, S.k, S.g⟩ : SS).Bd := ⟨fun i x hx => by simp [Tri.get] at hx, rfl, hb.g⟩
                have hcall := hI f _ ⟨.emp, [], 0, S.k, S.g⟩ e hbe hlt hf g1
                have hpd := pureL_den (G := G) (e := e) hpu
                rw [hden] at hcall hpd
                refine KSet.call hop (by rw [opv_den hf, hfv]; rfl) hcb hg hpd hcall fun r τ ⟨C, e', c1, c2, c3, c4, c5, c6, c7⟩ => ?_
                have hp := (g3 C e' c1).1
                have hpp : SV.pure (C.at 0) = true := by
                  unfold backP at hp
                  split at hp
                  · assumption
                  · exact hp.elim
                refine ⟨by rw [c2]; exact pure_den hpp, (⟨S.l, S.h, S.n, C.k, C.g⟩ : SS).put o.dst (C.at 0), e', ?_, ?_, put_fok c5, c6, by rw [put_k]; exact c7, ?_⟩
                · rw [g2, c1]
                  simp only [gft, backP, hpp]
                  rfl
                · refine put_bd ⟨fun i x hx => lt_mono c7 (hb.l i x hx), ltH_mono c7 hb.h, c4.g⟩ ?_
                  show (C.at 0).lt C.k = true
                  unfold SS.at
                  cases hc0 : C.l.get 0 with
                  | none => rfl
                  | some y => exact c4.l 0 y hc0
                · rw [den_put, c2]
                  have := den_keep (G := G) (N := N) (B := B) (S := S) c6 hb
                  have h2 : (SS.mk S.l S.h S.n C.k C.g).den G N B e' = S.den G N B e := this
                  rw [h2]
              · cases hcal
            · cases hcal
          · cases hcal
        · exact hs.elim
      · exact hs.elim
theorem skip_ok {o : Oper} {S : SS} {e : Env} (hb : S.Bd) (hf : S.fok e) : XA G N B M (.lf .nrm (S.put o.dst (.tp []))) e S.k ((S.den G N B e).put o.dst (.tuple [])) :=
 ⟨S.put o.dst (.tp []), e, rfl, put_bd hb rfl, put_fok hf, Agr.refl _ _, by rw [put_k]; exact Nat.le_refl _, by rw [den_put]; rfl⟩
theorem KSet.mono {ops : Array Oper} {o : Oper} {s : St} {A A' : St → Prop} (h : KSet P G ops o s A) (hA : ∀ t, A t → A' t) : KSet P G ops o s A' := fun E a w hr => by
 rcases h E a w hr with ⟨h1, h2⟩ | ⟨h1, t, h2, h3⟩
 ·exact .inl ⟨h1, fun K Q hK => h2 K Q fun t ht => hK t (hA t ht)⟩
 ·exact .inr ⟨h1, t, hA t h2, h3⟩
theorem oneX_ok (hI : InlOk P G M inl) {ops : Array Oper} {o : Oper} {S : SS} {e : Env} (hb : S.Bd) (hf : S.fok e) (hs : (oneX P N B T inl ops o S).safe M e) :
    (wrOf o = true → OSet P G ops o (S.den G N B e) (XA G N B M (oneX P N B T inl ops o S) e S.k)) ∧ (wrOf o = false → KSet P G ops o (S.den G N B e) (XA G N B M (oneX P N B T inl ops o S) e S.k)) := by
  have hg := guard_ok (G := G) (N := N) (B := B) (ops := ops) (o := o) hf
  unfold oneX at hs ⊢
  cases hgd : guardOf N ops S o with
  | yes =>
    rw [hgd] at hg hs
    exact exeX_ok hI hb hf hs hg
  | no =>
    rw [hgd] at hg hs
    simp only at hs ⊢
    split at hs
    · rename_i hw
      exact ⟨fun h => (by rw [hw] at h; cases h), fun _ => .no hg (skip_ok hb hf)⟩
    · exact hs.elim
  | bad => rw [hgd] at hs; exact hs.elim
  | on gs =>
    rw [hgd] at hg hs
    simp only at hs ⊢
    obtain ⟨g1, g2⟩ := hg
    split at hs
    · rename_i hlw
      simp only [Bool.and_eq_true, Bool.not_eq_true'] at hlw
      obtain ⟨hgl, hw⟩ := hlw
      refine ⟨fun h => (by rw [hw] at h; cases h), fun _ => ?_⟩
      split at hs
      · rename_i q hv
        split at hs
        · rename_i hc
          simp only [Bool.and_eq_true] at hc
          obtain ⟨n1, n2⟩ := emit_safe hs
          obtain ⟨a1, a2, a3⟩ := adv_ok (M := M) (G := G) (N := N) (B := B) hb hf hc.1
          have hag : Agr S.k e (envX M e S.k q.xs) := envX_agr (Nat.le_refl _)
          have hge : allG (envX M e S.k q.xs) gs = allG e gs := allG_agr hag hgl
          have hk : S.k ≤ S.k + q.xs.length := Nat.le_add_right _ _
          have hvl : (gdL gs q.v).lt (S.k + q.xs.length) = true := gdL_lt (ltGs_mono hk hgl) hc.2
          have hX : ∀ t, t = (S.den G N B e).put o.dst ((gdL gs q.v).den G (envX M e S.k q.xs)) → XA G N B M (emit S.k q.xs (q.ns.map (giL gs)) (.lf .nrm ((S.adv S.k q.xs).put o.dst (gdL gs q.v)))) e S.k t := fun t ht =>
            ⟨(S.adv S.k q.xs).put o.dst (gdL gs q.v), _, emit_run, put_bd a1 hvl, put_fok a2, hag, by rw [put_k]; exact Nat.le_add_right _ _, by rw [den_put, a3, ht]⟩
          cases hgb : allG e gs with
          | true =>
            have hf1 := boL_fok hf hgb
            have hb1 := boL_bd hb hgl
            have hst := vop_ok (G := G) (B := B) (M := M) hv (envX M e S.k q.xs) (fok_keep hag hb1.g hf1) (envX_at hc.1) fun n hn => giL_ok (n1 (giL gs n) (List.mem_map.2 ⟨n, hn, rfl⟩)) (hge.trans hgb)
            have hd1 : ({ S with g := boL gs S.g } : SS).den G N B (envX M e S.k q.xs) = S.den G N B e := den_keep (S := { S with g := boL gs S.g }) hag hb1
            rw [hd1] at hst
            exact KSet.v hst (g1 hgb) (hX _ (by rw [gdL_t (hge.trans hgb)]))
          | false => exact KSet.no (g2 hgb) (hX _ (by rw [gdL_f (hge.trans hgb)]))
        · exact hs.elim
      · cases hgb : allG e gs with
        | false =>
          obtain ⟨l', q1, q2, q3⟩ := forkL_f (M := M) (x := exeX P N B T inl o { S with g := boL gs S.g }) (y := skipT S o.dst) (l := S.g) hgb hgl hb.g hf
          obtain ⟨S1, p1, p2, p3, p4, p5⟩ := skipT_ok (G := G) (N := N) (B := B) (dst := o.dst) hb q2 q3
          exact KSet.no (g2 hgb) ⟨S1, e, by rw [q1, p1]; rfl, p2, p3, Agr.refl _ _, p4, p5.symm⟩
        | true =>
          have hf1 := boL_fok hf hgb
          have hb1 := boL_bd hb hgl
          obtain ⟨f1, f2⟩ := forkL_t (M := M) (x := exeX P N B T inl o { S with g := boL gs S.g }) (y := skipT S o.dst) (l := S.g) hgb
          refine KSet.mono ((exeX_ok hI (S := { S with g := boL gs S.g }) hb1 hf1 (f2 hs) (g1 hgb)).2 hw) fun t ⟨S1, e1, h1, h2⟩ => ⟨S1, e1, ?_, h2⟩
          rw [f1]; exact h1
    · exact hs.elim
theorem takeX_gen {ops : Array Oper} {o : Oper} {S : SS} {e : Env} {k : SS → Tr} (X : St → St → Prop) (c : SS → Prop)
    (hl : ∀ (S : SS) (r : Rs) (e : Env), c S → lop P N S o = some r → S.fok e → (∀ (j : Nat) (x : Ex), r.xs[j]? = some x → Env.at e (S.k + j) = x.den M e) → (∀ n ∈ r.ns, n.ok M e) → gwant ops (S.den G N B e) o = some true → X (S.den G N B e) ((S.den G N B e).put o.dst (r.v.den G e)))
    (hk : ∀ s, gwant ops s o = some false → X s (s.put o.dst (.tuple []))) (hc0 : guardOf N ops S o = .yes → c S) (hc1 : ∀ gs, guardOf N ops S o = .on gs → c { S with g := boL gs S.g }) (hb : S.Bd) (hf : S.fok e) (hs : (takeX P N ops o S k).safe M e) :
    ∃ S1 e1, S1.Bd ∧ S1.fok e1 ∧ Agr S.k e e1 ∧ S.k ≤ S1.k ∧ (k S1).safe M e1 ∧ run M (takeX P N ops o S k) e = run M (k S1) e1 ∧ X (S.den G N B e) (S1.den G N B e1) := by
  have hg := guard_ok (G := G) (N := N) (B := B) (ops := ops) (o := o) hf
  unfold takeX at hs ⊢
  cases hgd : guardOf N ops S o with
  | bad => rw [hgd] at hs; exact hs.elim
  | no =>
    rw [hgd] at hg hs
    have := hk _ hg
    exact ⟨S.put o.dst (.tp []), e, put_bd hb rfl, put_fok hf, Agr.refl _ _, by rw [put_k]; exact Nat.le_refl _, hs, rfl, by rw [den_put]; exact this⟩
  | yes =>
    rw [hgd] at hg hs
    simp only at hs ⊢
    split at hs
    · rename_i q hv
      split at hs
      · rename_i hc
        simp only [Bool.and_eq_true] at hc
        obtain ⟨n1, n2⟩ := emit_safe hs
        obtain ⟨a1, a2, a3⟩ := adv_ok (M := M) (G := G) (N := N) (B := B) hb hf hc.1
        have hag : Agr S.k e (envX M e S.k q.xs) := envX_agr (Nat.le_refl _)
        have hd := den_keep (G := G) (N := N) (B := B) hag hb
        have hst := hl _ _ _ (hc0 hgd) hv (fok_keep hag hb.g hf) (envX_at hc.1) n1 (by rw [hd]; exact hg)
        rw [hd] at hst
        exact ⟨(S.adv S.k q.xs).put o.dst q.v, _, put_bd a1 hc.2, put_fok a2, hag, by rw [put_k]; exact Nat.le_add_right _ _, n2, emit_run, by rw [den_put, a3]; exact hst⟩
      · exact hs.elim
    · exact hs.elim
  | on gs =>
    rw [hgd] at hg hs
    simp only at hs ⊢
    obtain ⟨g1, g2⟩ := hg
    split at hs
    · rename_i hgl
      split at hs
      · rename_i q hv
        split at hs
        · rename_i hc
          simp only [Bool.and_eq_true] at hc
          obtain ⟨n1, n2⟩ := emit_safe hs
          obtain ⟨a1, a2, a3⟩ := adv_ok (M := M) (G := G) (N := N) (B := B) hb hf hc.1
          have hag : Agr S.k e (envX M e S.k q.xs) := envX_agr (Nat.le_refl _)
          have hge : allG (envX M e S.k q.xs) gs = allG e gs := allG_agr hag hgl
          have hkk : S.k ≤ S.k + q.xs.length := Nat.le_add_right _ _
          have hvl : (gdL gs q.v).lt (S.k + q.xs.length) = true := gdL_lt (ltGs_mono hkk hgl) hc.2
          refine ⟨(S.adv S.k q.xs).put o.dst (gdL gs q.v), _, put_bd a1 hvl, put_fok a2, hag, by rw [put_k]; exact Nat.le_add_right _ _, n2, emit_run, ?_⟩
          rw [den_put, a3]
          cases hgb : allG e gs with
          | true =>
            have hf1 := boL_fok hf hgb
            have hb1 := boL_bd hb hgl
            have hd1 : ({ S with g := boL gs S.g } : SS).den G N B (envX M e S.k q.xs) = S.den G N B e := den_keep (S := { S with g := boL gs S.g }) hag hb1
            have hst := hl _ _ _ (hc1 gs hgd) hv (fok_keep hag hb1.g hf1) (envX_at hc.1) (fun n hn => giL_ok (n1 (giL gs n) (List.mem_map.2 ⟨n, hn, rfl⟩)) (hge.trans hgb)) (by rw [hd1]; exact g1 hgb)
            rw [hd1] at hst
            rw [gdL_t (hge.trans hgb)]
            exact hst
          | false =>
            rw [gdL_f (hge.trans hgb)]
            exact hk _ (g2 hgb)
        · exact hs.elim
      · exact hs.elim
    · exact hs.elim
theorem takeX_ok {ops : Array Oper} {o : Oper} {S : SS} {e : Env} {k : SS → Tr} (hb : S.Bd) (hf : S.fok e) (hs : (takeX P N ops o S k).safe M e) :
    ∃ S1 e1, S1.Bd ∧ S1.fok e1 ∧ Agr S.k e e1 ∧ S.k ≤ S1.k ∧ (k S1).safe M e1 ∧ run M (takeX P N ops o S k) e = run M (k S1) e1 ∧ LStep P G ops o (S.den G N B e) (S1.den G N B e1) :=
  takeX_gen (LStep P G ops o) (fun _ => True) (fun _ _ _ _ hv hf hx hn hg => lop_ok hv hf hx hn hg) (fun _ h => (PStep.skip h).l) (fun _ => trivial) (fun _ _ => trivial) hb hf hs
theorem PStep.det {ops : Array Oper} {o : Oper} {s : St} {v : AV} (h : VDet P G o s v) (hg : gwant ops s o = some true) : PStep P G ops o s (s.put o.dst v) := by
 intro E a w ⟨β, ro, hr⟩
 have hw := wanted_of (ops := ops) ⟨β, ro, hr⟩ hg
 obtain ⟨c, h1, h2⟩ := h E a w β ro hr
 exact ⟨c, .inl ⟨hw, h1⟩, β, ro, hr.put _ _ _ h2⟩
theorem pop_ok {ops : Array Oper} {o : Oper} {S : SS} {r : Rs} {e : Env} (hp : pop P N S o = true) (h : lop P N S o = some r) (hf : S.fok e) (hx : ∀ (j : Nat) (x : Ex), r.xs[j]? = some x → Env.at e (S.k + j) = x.den M e) (hn : ∀ n ∈ r.ns, n.ok M e) (hg : gwant ops (S.den G N B e) o = some true) :
    PStep P G ops o (S.den G N B e) ((S.den G N B e).put o.dst (r.v.den G e)) := by
  unfold lop at h
  unfold pop at hp
  split at h
  · rename_i x ho
    cases h
    have : pval P G o (S.den G N B e) = some ((S.opv N x).den G e) := by unfold pval; rw [ho, ← opv_den hf]
    exact PStep.val this hg
  · rename_i x ho
    cases h
    have : pval P G o (S.den G N B e) = some ((S.opv N x).den G e) := by unfold pval; rw [ho, ← opv_den hf]
    exact PStep.val this hg
  · rename_i x ho
    split at h
    · rename_i hq
      cases h
      have : pval P G o (S.den G N B e) = some ((S.opv N x).den G e) := by
        unfold pval
        rw [ho]
        simp only [opv_den hf, isPtrS_den hq]
      exact PStep.val this hg
    · cases h
  · rename_i t x f ho
    split at h
    · rename_i k hk hq
      split at h
      · rename_i p hs
        cases h
        have : pval P G o (S.den G N B e) = some (p.den G e) := by
          unfold pval
          rw [ho]
          simp only [hk, opv_den hf, isPtrS_den hq, shiftS_den hs]
        exact PStep.val this hg
      · cases h
    · cases h
  · rename_i t x ho
    rw [ho] at hp
    cases hp
  · rename_i t x i ho
    split at h
    · rename_i id hid
      exact PStep.det (ixR_ok ho hid h hf hx hn) hg
    · rename_i id off hid
      exact PStep.det (ixP_ok ho hid h hf hn) hg
    · exact PStep.det (ixA_ok ho h hf hx hn) hg
  · rename_i t x lo hi ho
    split at h
    · rename_i r' hs
      cases h
      exact PStep.det (slA_ok ho hs hf hx hn) hg
    · rename_i hs
      rw [ho] at hp
      simp only [hs, Option.isSome_none] at hp
      cases hp
  · rename_i h1 h2 h3 h4 h5 h6 h7
    split at hp
    · rename_i x ho; exact absurd ho (h1 x)
    · rename_i x ho; exact absurd ho (h2 x)
    · rename_i x ho; exact absurd ho (h3 x)
    · rename_i t x f ho; exact absurd ho (h4 t x f)
    · rename_i t x i ho; exact absurd ho (h6 t x i)
    · rename_i t x lo hi ho; exact absurd ho (h7 t x lo hi)
    · cases hp
theorem takeX_okP {ops : Array Oper} {o : Oper} {S : SS} {e : Env} {k : SS → Tr} (hp : popG P N ops S o = true) (hb : S.Bd) (hf : S.fok e) (hs : (takeX P N ops o S k).safe M e) :
    ∃ S1 e1, S1.Bd ∧ S1.fok e1 ∧ Agr S.k e e1 ∧ S.k ≤ S1.k ∧ (k S1).safe M e1 ∧ run M (takeX P N ops o S k) e = run M (k S1) e1 ∧ PStep P G ops o (S.den G N B e) (S1.den G N B e1) :=
  takeX_gen (PStep P G ops o) (fun S => pop P N S o = true) (fun _ _ _ hc hv hf hx hn hg => pop_ok hc hv hf hx hn hg) (fun _ h => PStep.skip h)
    (fun hg => by unfold popG at hp; rw [hg] at hp; exact hp) (fun gs hg => by unfold popG at hp; rw [hg] at hp; exact hp) hb hf hs
theorem eqFc_eq {x y : Fc} (h : eqFc x y = true) : x = y := by
 unfold eqFc at h
 split at h
 ·simp only [Bool.and_eq_true, decide_eq_true_eq] at h; rw [Nat.eq_of_beq_eq_true h.1, h.2.1, eqS_eq h.2.2]
 ·simp only [Bool.and_eq_true, decide_eq_true_eq] at h
  obtain ⟨⟨h1, h2⟩, h3, h4⟩ := h
  cases Nat.eq_of_beq_eq_true h1; cases h2; rw [eqS_eq h3, eqS_eq h4]
 ·simp only [Bool.and_eq_true] at h; rw [Nat.eq_of_beq_eq_true h.1, eqS_eq h.2]
 ·simp only [Bool.and_eq_true, decide_eq_true_eq] at h; rw [eqS_eq h.1, h.2]
 ·cases h
theorem eqFs_eq : ∀ {l m : List Fc}, eqFs l m = true → l = m
 | [], [], _ => rfl
 | [], _ :: _, h => by cases h
 | _ :: _, [], h => by cases h
 | x :: l, y :: m, h => by
  simp only [eqFs, Bool.and_eq_true] at h
  rw [eqFc_eq h.1, eqFs_eq h.2]
theorem eqSO_eq {x y : SO} (h : eqSO x y = true) : x = y := by
 unfold eqSO at h
 split at h
 ·simp only [Bool.and_eq_true] at h; rw [Nat.eq_of_beq_eq_true h.1, eqSs_eq h.2]
 ·simp only [Bool.and_eq_true, decide_eq_true_eq] at h; rw [Nat.eq_of_beq_eq_true h.1, h.2.1, eqS_eq h.2.2]
 ·simp only [Bool.and_eq_true] at h; rw [eqS_eq h.1, eqS_eq h.2]
 ·cases h
theorem eqHS_eq : ∀ {l m : List (Nat × SO)}, eqHS l m = true → l = m
 | [], [], _ => rfl
 | [], _ :: _, h => by cases h
 | _ :: _, [], h => by cases h
 | (i, x) :: l, (j, y) :: m, h => by
  simp only [eqHS, Bool.and_eq_true] at h
  rw [Nat.eq_of_beq_eq_true h.1, eqSO_eq h.2.1, eqHS_eq h.2.2]
theorem eqTri_eq : ∀ {l m : Tri SV}, eqTri l m = true → l = m
 | .emp, .emp, _ => rfl
 | .emp, .n _ _ _, h => by cases h
 | .n _ _ _, .emp, h => by cases h
 | .n v l r, .n w m s, h => by
  simp only [eqTri, Bool.and_eq_true] at h
  rw [eqTri_eq h.2.1, eqTri_eq h.2.2]
  have h1 := h.1
  cases v <;> cases w <;> first | rfl | (cases h1; done) | (rw [eqS_eq h1])
theorem eqSt_eq {S U : SS} (h : eqSt S U = true) : S = U := by
 obtain ⟨a1, a2, a3, a4, a5⟩ := S
 obtain ⟨b1, b2, b3, b4, b5⟩ := U
 simp only [eqSt, Bool.and_eq_true] at h
 obtain ⟨⟨h1, h2⟩, ⟨h3, h4⟩, h5⟩ := h
 rw [eqTri_eq h1, eqHS_eq h2, Nat.eq_of_beq_eq_true h3, Nat.eq_of_beq_eq_true h4, eqFs_eq h5]
theorem sameTs_eq {S : SS} : ∀ {l : List Tr}, sameTs S l = true → ∀ t ∈ l, t = .lf .nrm S
 | [], _, _, ht => by cases ht
 | u :: r, h, t, ht => by
  unfold sameTs at h
  split at h
  ·rename_i heq; cases heq
  ·rename_i U r' heq
   cases heq
   simp only [Bool.and_eq_true] at h
   rcases List.mem_cons.1 ht with rfl | ht
   ·rw [eqSt_eq h.1]
   ·exact sameTs_eq h.2 t ht
  ·cases h
theorem sameT_ok {l : List Tr} {e : Env} (h : (sameT l).safe M e) : ∃ S, sameT l = .lf .nrm S ∧ ∀ t ∈ l, t = .lf .nrm S := by
 unfold sameT at h ⊢
 split at h
 ·rename_i S r
  split at h
  ·rename_i hs
   refine ⟨S, by simp only [hs], fun t ht => ?_⟩
   rcases List.mem_cons.1 ht with rfl | ht
   ·rfl
   ·exact sameTs_eq hs t ht
  ·exact h.elim
 ·exact h.elim
theorem drT_ok (hI : InlOk P G M inl) {L : List Oper} {wr : List Bool} (hsel : Region.noSelect L.toArray = true) {Q : Exit → St → Prop} : ∀ (n : Nat) (m : List Bool) {S : SS} {e : Env}, S.Bd → S.fok e → (drT P N B T inl L.toArray wr n m S).safe M e → (∀ st, Post G N B M (drT P N B T inl L.toArray wr n m S) e S.k .normal st → Q .normal st) → KD P G L Q wr n m (S.den G N B e)
  | 0, m, S, e, hb, hf, hs, hQ => by
    unfold drT at hs hQ
    split at hs
    · rename_i hr
      rw [hr] at hQ
      exact KD.done (hQ _ ⟨.nrm, S, e, rfl, trivial, Le.refl _, hb, hf, Agr.refl _ _, Nat.le_refl _⟩) hr
    · exact hs.elim
  | n + 1, m, S, e, hb, hf, hs, hQ => by
    unfold drT at hs hQ
    cases hr : Region.ready .any L.toArray m.toArray with
    | nil =>
      rw [hr] at hQ
      exact KD.done (hQ _ ⟨.nrm, S, e, rfl, trivial, Le.refl _, hb, hf, Agr.refl _ _, Nat.le_refl _⟩) hr
    | cons i rd =>
      rw [hr] at hs hQ
      simp only at hs hQ
      split at hs
      · rename_i j hfx
        rw [hfx] at hQ
        simp only at hQ
        split at hs
        · rename_i o ho hc
          rw [ho, hc] at hQ
          simp only [Bool.and_eq_true, Bool.not_eq_true'] at hc
          simp only at hQ
          split at hs
          · rename_i hpd
            rw [hpd] at hQ
            simp only at hQ
            cases hpg : popG P N L.toArray S o with
            | true =>
              obtain ⟨S1, e1, s1, s2, s3, s4, s5, s6, s7⟩ := takeX_okP (G := G) (B := B) hpg hb hf hs
              exact KD.takeY j (by simpa using ho) s7 (drT_ok hI hsel n (m.set j true) s1 s2 s5 fun st hp => hQ st (hp.sub s6 s3 s4)) hsel hc.2.1 (by rw [hr]; exact hc.1) hc.2.2
            | false =>
              rw [hpg, Bool.false_or] at hpd
              obtain ⟨S1, e1, s1, s2, s3, s4, s5, s6, s7⟩ := takeX_ok (G := G) (B := B) hb hf hs
              exact KD.takeD j (by simpa using ho) s7 (drT_ok hI hsel n (m.set j true) s1 s2 s5 fun st hp => hQ st (hp.sub s6 s3 s4)) hsel hc.2.1 (by rw [hr]; exact hc.1) hpd
          · exact hs.elim
        · exact hs.elim
      · rename_i hfx
        rw [hfx] at hQ
        simp only at hQ
        split at hs
        · rename_i o ho
          rw [ho] at hQ
          simp only at hQ
          split at hs
          · rename_i hwd
            rw [hwd] at hQ
            have hwd := of_decide_eq_true hwd
            simp only at hQ
            obtain ⟨t1, _, t3⟩ := seqG_ok (G := G) (B := B) hb hf hs
            have next : ∀ t, XA G N B M (oneX P N B T inl L.toArray o S) e S.k t → KD P G L Q wr n (m.set i true) t := fun t ⟨S1, e1, h1, h2, h3, h4, h5, h6⟩ => by
              subst h6
              obtain ⟨S2, e2, q1, q2, q3, q4, q5, q6, q7⟩ := t3 S1 e1 h1 h2 h3 h4 h5
              have := drT_ok hI hsel n (m.set i true) q2 q3 q6 fun st hp => hQ st (hp.sub q7 q4 q5)
              exact fun E a w hr => this E a w (q1 E G a w hr)
            obtain ⟨x1, x2⟩ := oneX_ok (G := G) (B := B) (T := T) hI hb hf t1
            cases hw : wrOf o with
            | true => exact KD.oneW (by simpa using ho) hr (hwd.trans hw) (x1 hw) next
            | false => exact KD.one (by simpa using ho) hr (hwd.trans hw) (x2 hw) next
          · exact hs.elim
        · rename_i _ rd _ _ hno
          have hQ' : ∀ st, Post G N B M (sameT ((i :: rd).map fun j => match L.toArray[j]? with
              | some o => match decide (wr.getD j false = wrOf o) with
                | true => seqG N S o.dst (gsOf N L.toArray S o) (oneX P N B T inl L.toArray o S) (drT P N B T inl L.toArray wr n (m.set j true))
                | false => .bad 78
              | none => .bad 77)) e S.k .normal st → Q .normal st := fun st hp => hQ st (by
            split
            · rename_i o' ho'; exact (hno o' rfl ho').elim
            · exact hp)
          clear hQ
          obtain ⟨U, hU, hall⟩ := sameT_ok hs
          rw [hU] at hQ' hs
          refine KD.any (by rw [hr]; simp) fun j hj => ?_
          rw [hr] at hj
          have htj := hall _ (List.mem_map.2 ⟨j, hj, rfl⟩)
          split at htj
          · rename_i o ho
            split at htj
            · rename_i hwd
              have hwd := of_decide_eq_true hwd
              have hs' : (seqG N S o.dst (gsOf N L.toArray S o) (oneX P N B T inl L.toArray o S) (drT P N B T inl L.toArray wr n (m.set j true))).safe M e := by rw [htj]; trivial
              obtain ⟨t1, _, t3⟩ := seqG_ok (G := G) (B := B) hb hf hs'
              refine ⟨o, by simpa using ho, XA G N B M (oneX P N B T inl L.toArray o S) e S.k, fun t ⟨S1, e1, h1, h2, h3, h4, h5, h6⟩ => ?_, fun E a w hrel => ?_⟩
              · subst h6
                obtain ⟨S2, e2, q1, q2, q3, q4, q5, q6, q7⟩ := t3 S1 e1 h1 h2 h3 h4 h5
                have := drT_ok hI hsel n (m.set j true) q2 q3 q6 fun st hp => hQ' st (by rw [← htj]; exact hp.sub q7 q4 q5)
                exact fun E a w hr => this E a w (q1 E G a w hr)
              · obtain ⟨x1, x2⟩ := oneX_ok (G := G) (B := B) (T := T) hI hb hf t1
                cases hw : wrOf o with
                | true =>
                  obtain ⟨y1, y2⟩ := x1 hw E a w hrel
                  exact .inl ⟨y1, fun K Q hK => y2 K Q fun t ht a' w' hr' => hK t ht a' w' hr' (.inl (hwd.trans hw))⟩
                | false =>
                  rcases x2 hw E a w hrel with ⟨y1, y2⟩ | ⟨y1, y2⟩
                  · exact .inl ⟨y1, fun K Q hK => y2 K Q fun t ht a' w' hr' hk => hK t ht a' w' hr' (.inr hk)⟩
                  · exact .inr ⟨hwd.trans hw, y1, y2⟩
            · cases htj
          · cases htj
theorem draw_ok (hI : InlOk P G M inl) : DrawOk P G N B M (drawT P N B T inl) := by
 intro id ops S e hb hf hs
 have e0 : ops = ops.toList.toArray := by simp
 rw [e0] at hs ⊢
 generalize ops.toList = L at hs ⊢
 unfold drawT at hs ⊢
 split at hs
 ·rename_i hc
  simp only [Bool.and_eq_true] at hc
  refine AWp.drawnK _ (drT_ok hI hc.2 _ _ hb hf hs fun st hp => hp) hc.1 (by simp)
 ·exact hs.elim
def Hd.all (P : Program) (T : List (Nat × TC)) : Hd := ⟨fun N B _ => loopT N B, fun N B inl => drawT P N B T inl⟩
theorem all_ok : HdOk P G M (Hd.all P T) := fun _ hI _ _ => ⟨loop_ok, draw_ok hI⟩
end
end Go.Av
namespace Go.Av
open Go

section
variable {P : Program} {G : Glob} {f : FuncId} {args : List AV} {σ : Heap} {n : Nat} {R : AV → Heap → Prop}
theorem ACalls.arg {args' : List AV} (h : ACalls P G f args σ n R) (ha : SubA args' args) : ACalls P G f args' σ n R := by
 intro w β ro cargs h1 h2 h3 h4 h5
 refine h w β ro cargs (by rw [h1, ha.at.1]) (fun i x hx => ?_) h3 h4 h5
 obtain ⟨y, hy, hs⟩ := ha.at.2 i x hx
 exact hs _ _ _ _ _ _ (h2 i y hy)
theorem ACalls.res {R' : AV → Heap → Prop} (h : ACalls P G f args σ n R) (hq : ∀ r τ, R r τ → R' r τ) : ACalls P G f args σ n R' := by
 intro w β ro cargs h1 h2 h3 h4 h5
 refine Calls.mono (h w β ro cargs h1 h2 h3 h4 h5) fun e w' ⟨v, r1, σ', β', ro', n', he, h6, hrest⟩ => ?_
 exact ⟨v, r1, σ', β', ro', n', he, hq _ _ h6, hrest⟩
theorem noOwn (β : Nat → Value) (b : Nat) : ¬ Own ([] : Heap) β b := fun ⟨_, _, hg, _⟩ => by simp [hget] at hg
theorem ACalls.frame (h : ACalls P G f args [] 0 R) (hp : pureL args = true) (hR : ∀ r τ, R r τ → pureA r = true) : ACalls P G f args σ n fun r τ => τ = σ ∧ ∃ τ', R r τ' := by
 intro w β ro cargs h1 h2 h3 h4 h5
 refine Calls.mono (h w β ro cargs h1 (fun i x hx => pure_rel (h2 i x hx) (pureL_at hp hx)) ⟨by simp [hget], by simp [hget], fun b _ => noOwn β b, h3.lt⟩ h4 (by simp [hget])) fun e w' ⟨v, r, τ', β', ro', n', he, hr, hrel, hh', ht'⟩ => ?_
 have hframe : ∀ b, b < w.heap.size → w'.heap[b]? = w.heap[b]? := fun b hb => ht'.frame b hb (noOwn β b)
 have hE : RelAt ⟨w, ro, σ, β, n⟩ G ⟨[], σ, n, n⟩ ⟨#[], []⟩ w β ro := ⟨rfl, rfl, by simp, h3, h4, ⟨rfl, rfl, rfl, Nat.le_refl _, fun _ _ _ => rfl, fun _ h => .inl h, fun _ h => h, fun _ h => .inl h, fun id _ o hg => ⟨by simp [hg], rfl⟩, h5, Nat.le_refl _⟩, Nat.le_refl _⟩
 have hgr := hE.grow (w' := w') (ro' := ro') ht'.os ht'.tape ht'.output ht'.size hframe ht'.roKeep (fun b hb => by
  rcases ht'.roSub b hb with q | q | q
  ·exact .inl q
  ·exact absurd q (noOwn β b)
  ·exact .inr ⟨q, hh'.lt b hb⟩)
 exact ⟨v, r, σ, β, ro', n, he, ⟨rfl, τ', hr⟩, pure_rel hrel (hR r τ' hr), hgr.heap, hgr.trans⟩
theorem ACalls.lend {args' : List AV} (h : ACalls P G f args [] 0 R) (ha : SubA (lendL σ args') args) (hp : pureL (lendL σ args') = true) (hR : ∀ r τ, R r τ → scalA r = true) : ACalls P G f args' σ n fun r τ => τ = σ ∧ ∃ τ', R r τ' := by
 have h := h.arg ha
 intro w β ro cargs h1 h2 h3 h4 h5
 have ownLt : ∀ b, Own σ β b → b < w.heap.size := fun b ⟨k, p, hk, hp, hbk⟩ => (h3.objs k p hk).blkLt hp hbk
 refine Calls.mono (h w β (lent ro σ β) cargs (by rw [lendL_length]; exact h1) (fun i x hx => ?_) ⟨by simp [hget], by simp [hget], fun b _ => noOwn β b, fun b hb => hb.elim (h3.lt b) (ownLt b)⟩
  (h4.keep (fun _ _ => rfl) fun _ h => .inl h) (by simp [hget])) fun e w' ⟨v, r, τ', β', ro', n', he, hr, hrel, hh', ht'⟩ => ?_
 ·obtain ⟨z, hz, rfl⟩ := lendL_at _ hx
  exact pure_rel (lend_rel h3 (h2 i z hz)) (pureL_at hp hx)
 have hframe : ∀ b, b < w.heap.size → w'.heap[b]? = w.heap[b]? := fun b hb => ht'.frame b hb (noOwn β b)
 have hE : RelAt ⟨w, ro, σ, β, n⟩ G ⟨[], σ, n, n⟩ ⟨#[], []⟩ w β ro := ⟨rfl, rfl, by simp, h3, h4, ⟨rfl, rfl, rfl, Nat.le_refl _, fun _ _ _ => rfl, fun _ h => .inl h, fun _ h => h, fun _ h => .inl h, fun id _ o hg => ⟨by simp [hg], rfl⟩, h5, Nat.le_refl _⟩, Nat.le_refl _⟩
 have hgr := hE.grow (w' := w') (ro' := ro) ht'.os ht'.tape ht'.output ht'.size hframe (fun _ h => h) (fun _ h => .inl h)
 exact ⟨v, r, σ, β, ro, n, he, ⟨rfl, τ', hr⟩, scal_rel hrel (hR r τ' hr), hgr.heap, hgr.trans⟩
end

def Dyn.av (d : Dyn) : AV :=
 match d with
 | ⟨.st c, x⟩ => .agg ((cT c x).map .rv)
 | ⟨r, x⟩ => .rv (rvT r x)
def avL (rs : List Rt) (x : (pL rs).den) : List AV := (upL rs x).map Dyn.av
def resA (rs : List Rt) (x : (pL rs).den) : AV :=
 match avL rs x with
 | [v] => v
 | l => .tuple l
structure Cn where
 f : Nat
 j : Nat
 ps : List Rt
 rs : List Rt
 cl : Bool
def MdOk (P : Program) (G : Glob) (f : Nat) (m : Md) : Prop :=
 ∀ x : (pL m.ps).den, preOk m.pre x → ACalls P G f (avL m.ps x) [] 0 fun v _ => v = resA m.rs (m.m x)
def CnOk (P : Program) (G : Glob) (M : List Md) (c : Cn) : Prop :=
 (getL Md.d M c.j).ps = c.ps ∧ (getL Md.d M c.j).rs = c.rs ∧ MdOk P G c.f (getL Md.d M c.j) ∧ (c.cl = true → (getL Md.d M c.j).pre = none)
def CnsOk (P : Program) (G : Glob) (M : List Md) (C : List Cn) : Prop := ∀ c ∈ C, CnOk P G M c
def lookCn (f : Nat) : List Cn → Option Cn
 | [] => none
 | c :: r => match Nat.beq c.f f with
  | true => some c
  | false => lookCn f r
def svOf (r : Rt) (i : Nat) : SV :=
 match r with
 | .st c => .ag (fsOf c i 0 (fT c))
 | r => .va r i
def svsOf : Nat → List Rt → List SV
 | _, [] => []
 | i, r :: rs => svOf r i :: svsOf (i + 1) rs
def pjs (rs : List Rt) (p : Nat) : Nat → List Rt → List Ex
 | _, [] => []
 | i, _ :: r => .pj rs p i :: pjs rs p (i + 1) r
def Rt.okR : Rt → Bool
 | .st _ => true
 | r => r.one
def Rt.scal : Rt → Bool
 | .int _ => true
 | .bool => true
 | .str => true
 | .st c => (fT c).all Rt.cmp
 | _ => false
def argV (S : SS) (r : Rt) (a : SV) : Option SV :=
 match r, a with
 | .st c, .ag l => match isL (fT c) l with
  | true => some a
  | false => none
 | .li c, .sl id => match getH S.h id with
  | some (.rw _ d x) => match decide (c = d) && x.is1 (.li c) with
   | true => some x
   | false => none
  | _ => none
 | r, a => match r.one && a.is1 r with
  | true => some a
  | false => none
def argVs (S : SS) : List Rt → List SV → Option (List SV)
 | [], [] => some []
 | r :: rs, a :: as => match argV S r a, argVs S rs as with
  | some x, some l => some (x :: l)
  | _, _ => none
 | _, _ => none
def noSl : List SV → Bool
 | [] => true
 | .sl _ :: _ => false
 | _ :: r => noSl r
def conX (c : Cn) (as : List SV) (k : Nat) : List Ex :=
 match c.rs with
 | [_] => [.ca c.j as]
 | rs => .ca c.j as :: pjs rs k 0 rs
def conV (c : Cn) (k : Nat) : SV :=
 match c.rs with
 | [r] => svOf r k
 | rs => .tp (svsOf (k + 1) rs)
def conS (S : SS) (xs : List Ex) (v : SV) : SS := { S with l := Tri.put .emp 0 v, k := S.k + xs.length }
def conN (c : Cn) (xs : List SV) : List Nd :=
 match c.cl with
 | true => []
 | false => [.ca c.j xs]
def conI (C : List Cn) (inl : Nat → List SV → SS → Tr) (f : Nat) (as : List SV) (S : SS) : Tr :=
 match lookCn f C with
 | none => inl f as S
 | some c => match argVs S c.ps as with
  | none => inl f as S
  | some xs => match c.rs.all Rt.okR && (noSl as || c.rs.all Rt.scal) && (SV.ltL S.k xs && SV.bel S.n (conV c S.k)) with
   | true => emit S.k (conX c xs S.k) (conN c xs) (.lf .nrm (conS S (conX c xs S.k) (conV c S.k)))
   | false => .bad 51

theorem upL_pkL : ∀ {rs : List Rt} {ds : List Dyn}, ds.map Dyn.r = rs → upL rs (pkL rs ds) = ds
 | [], [], _ => rfl
 | [], _ :: _, h => by cases h
 | [r], ds, h => by
  obtain ⟨d, ds', rfl, h1, h2⟩ := map1 h
  cases map0 h2
  subst h1
  show [⟨d.r, d.as d.r⟩] = [d]
  rw [as_self]
 | r :: s :: l, ds, h => by
  obtain ⟨d, ds', rfl, h1, h2⟩ := map1 h
  subst h1
  show (⟨d.r, d.as d.r⟩ : Dyn) :: upL (s :: l) (pkL (s :: l) ds') = d :: ds'
  rw [as_self, upL_pkL h2]
theorem upL_r : ∀ {rs : List Rt} {x : (pL rs).den}, (upL rs x).map Dyn.r = rs
 | [], _ => rfl
 | [_], _ => rfl
 | r :: s :: l, x => by
  show r :: (upL (s :: l) x.2).map Dyn.r = _
  rw [upL_r]
section
variable {G : Glob} {e : Env} {S : SS}
theorem av_one {r : Rt} {x : r.den} (h : ∀ c, r ≠ .st c) : (⟨r, x⟩ : Dyn).av = .rv (rvT r x) := by
 cases r with
 | st c => exact absurd rfl (h c)
 | _ => rfl
theorem one_st {r : Rt} (h : r.one = true) : ∀ c, r ≠ .st c := fun c hc => by subst hc; cases h
theorem is1_rv {r : Rt} {a : SV} (h : a.is1 r = true) : ∃ y, a.den G e = .rv y := by
 unfold SV.is1 at h
 split at h <;> first | exact ⟨_, rfl⟩ | cases h
theorem isL_rv : ∀ {rs : List Rt} {l : List SV}, isL rs l = true → ∃ ys : List RV, SV.denL G e l = ys.map .rv
 | [], [], _ => ⟨[], rfl⟩
 | [], _ :: _, h => by cases h
 | _ :: _, [], h => by cases h
 | r :: rs, x :: xs, h => by
  simp only [isL, Bool.and_eq_true] at h
  obtain ⟨y, hy⟩ := is1_rv (G := G) (e := e) h.1
  obtain ⟨ys, hys⟩ := isL_rv (rs := rs) h.2
  exact ⟨y :: ys, by simp only [SV.denL, hy, hys, List.map_cons]⟩
theorem lendL_rv {σ : Heap} : ∀ {ys : List RV}, lendL σ (ys.map .rv) = ys.map .rv
 | [] => rfl
 | y :: ys => by simp only [List.map_cons, lendL, lendA, lendL_rv]
theorem argV_ok {r : Rt} {a x : SV} (h : argV S r a = some x) :
    Sub (lendA (denH G e S.h) (a.den G e)) (Dyn.av ⟨r, x.get e r⟩) ∧ pureA (lendA (denH G e S.h) (a.den G e)) = true ∧ ((∀ id, a ≠ .sl id) → lendA (denH G e S.h) (a.den G e) = a.den G e) := by
  unfold argV at h
  split at h
  · rename_i c l
    split at h
    · rename_i hl
      cases h
      obtain ⟨ys, hy⟩ := isL_rv (G := G) (e := e) hl
      have hs := isSt_sub (G := G) (e := e) hl
      have hd : lendA (denH G e S.h) ((SV.ag l).den G e) = (SV.ag l).den G e := by simp only [SV.den, lendA, hy, lendL_rv]
      rw [hd]
      refine ⟨?_, by simp only [SV.den, hy, pureA, pureL_map], fun _ => rfl⟩
      simp only [SV.den]
      exact hs.agg
    · cases h
  · rename_i c id
    split at h
    · rename_i t d y hg
      split at h
      · rename_i hc
        cases h
        simp only [Bool.and_eq_true, decide_eq_true_eq] at hc
        obtain ⟨rfl, hx⟩ := hc
        have hh : hget (denH G e S.h) id = some (.row false t (nT c) (List.map (cT c) (x.get1 e (.li c)))) := by rw [denH_get, hg]; rfl
        have hd : lendA (denH G e S.h) ((SV.sl id).den G e) = .rv (.sl (nT c) (List.map (cT c) (x.get1 e (.li c)))) := by simp only [SV.den, lendA, hh]
        rw [hd]
        exact ⟨SubR.av fun _ _ _ h => .li _ _ _ h, rfl, fun h => absurd rfl (h id)⟩
      · cases h
    · cases h
  · split at h
    · rename_i hc
      cases h
      simp only [Bool.and_eq_true] at hc
      obtain ⟨y, hy⟩ := is1_rv (G := G) (e := e) hc.2
      have hd : lendA (denH G e S.h) (a.den G e) = a.den G e := by rw [hy]; rfl
      rw [hd]
      refine ⟨?_, by rw [hy]; rfl, fun _ => rfl⟩
      rw [av_one (one_st hc.1), get_one hc.1]
      exact is1_sub hc.2
    · cases h
theorem argVs_ok : ∀ {rs : List Rt} {as xs : List SV}, argVs S rs as = some xs →
    SubA (lendL (denH G e S.h) (SV.denL G e as)) ((valL e rs xs).map Dyn.av) ∧ pureL (lendL (denH G e S.h) (SV.denL G e as)) = true ∧ (noSl as = true → lendL (denH G e S.h) (SV.denL G e as) = SV.denL G e as) ∧ (valL e rs xs).map Dyn.r = rs
  | [], [], _, h => by cases h; exact ⟨.nil, rfl, fun _ => rfl, rfl⟩
  | [], _ :: _, _, h => by cases h
  | _ :: _, [], _, h => by cases h
  | r :: rs, a :: as, xs, h => by
    simp only [argVs] at h
    split at h
    · rename_i x l h1 h2
      cases h
      obtain ⟨a1, a2, a3⟩ := argV_ok (G := G) (e := e) h1
      obtain ⟨b1, b2, b3, b4⟩ := argVs_ok h2
      refine ⟨.cons a1 b1, by simp only [SV.denL, lendL, pureL, a2, b2, Bool.and_self], fun hn => ?_, by simp only [valL, List.map_cons, b4]⟩
      have : (∀ id, a ≠ .sl id) ∧ noSl as = true := by
        cases a <;> first | (cases hn; done) | exact ⟨fun id hid => (by cases hid), hn⟩
      simp only [SV.denL, lendL, a3 this.1, b3 this.2]
    · cases h
end

section
variable {G : Glob} {e : Env}
theorem av_pure (d : Dyn) : pureA d.av = true := by
 unfold Dyn.av
 split
 ·simp only [pureA, pureL_map]
 ·rfl
theorem avL_pure : ∀ l : List Dyn, pureL (l.map Dyn.av) = true
 | [] => rfl
 | d :: l => by simp only [List.map_cons, pureL, av_pure, avL_pure l, Bool.and_self]
theorem resA_pure {rs : List Rt} {x : (pL rs).den} : pureA (resA rs x) = true := by
 have h := avL_pure (upL rs x)
 unfold resA avL
 split
 ·rename_i v hv
  rw [hv] at h
  simpa [pureL] using h
 ·exact h
theorem scalL_rv : ∀ {ds : List Dyn}, (∀ d ∈ ds, d.r.scal = true ∧ ∀ c, d.r ≠ .st c) → scalL (ds.map fun d => .rv d.rv) = true
 | [], _ => rfl
 | d :: ds, h => by
  have h1 := h d (List.mem_cons_self ..)
  have h2 := scalL_rv (ds := ds) fun x hx => h x (List.mem_cons_of_mem _ hx)
  obtain ⟨r, x⟩ := d
  cases r <;> first | (exact absurd rfl (h1.2 _)) | (cases h1.1; done) | exact h2
theorem av_scal {d : Dyn} (h : d.r.scal = true) : scalA d.av = true := by
 obtain ⟨r, x⟩ := d
 cases r with
 | st c =>
  show scalA (.agg ((cT c x).map .rv)) = true
  have hc : cT c x = (cD c x).map Dyn.rv := by unfold cT; rfl
  rw [hc, List.map_map]
  simp only [scalA]
  refine scalL_rv fun d hd => ?_
  have hr : d.r ∈ fT c := by
   have := cD_ty c x
   rw [← this]
   exact List.mem_map_of_mem hd
  have ha : d.r.cmp = true := List.all_eq_true.1 (show (fT c).all _ = true from h) d.r hr
  cases hd : d.r <;> rw [hd] at ha <;> first | (cases ha; done) | exact ⟨rfl, fun c hc => by cases hc⟩
 | _ => first | rfl | cases h
theorem avL_scal : ∀ {l : List Dyn}, (∀ d ∈ l, d.r.scal = true) → scalL (l.map Dyn.av) = true
 | [], _ => rfl
 | d :: l, h => by
  simp only [List.map_cons, scalL, av_scal (h d (List.mem_cons_self ..)), avL_scal (l := l) fun x hx => h x (List.mem_cons_of_mem _ hx), Bool.and_self]
theorem resA_scal {rs : List Rt} {x : (pL rs).den} (h : rs.all Rt.scal = true) : scalA (resA rs x) = true := by
 have h := avL_scal (l := upL rs x) fun d hd => by
  have hr : d.r ∈ rs := by
   have := upL_r (rs := rs) (x := x)
   rw [← this]
   exact List.mem_map_of_mem hd
  exact List.all_eq_true.1 h d.r hr
 unfold resA avL
 split
 ·rename_i v hv
  rw [hv] at h
  simpa [scalL] using h
 ·exact h
end

section
variable {P : Program} {G : Glob} {M : List Md} {C : List Cn} {inl : Nat → List SV → SS → Tr}
theorem lookCn_mem {f : Nat} {c : Cn} : ∀ {C : List Cn}, lookCn f C = some c → c ∈ C ∧ c.f = f
 | [], h => by cases h
 | d :: r, h => by
  unfold lookCn at h
  split at h
  ·rename_i hd; cases h; exact ⟨List.mem_cons_self .., Nat.eq_of_beq_eq_true hd⟩
  ·obtain ⟨h1, h2⟩ := lookCn_mem h; exact ⟨List.mem_cons_of_mem _ h1, h2⟩
theorem pjs_at (rs : List Rt) (p : Nat) : ∀ (l : List Rt) (i j : Nat), (pjs rs p i l)[j]? = if j < l.length then some (.pj rs p (i + j)) else none
 | [], i, j => by simp [pjs]
 | _ :: l, i, 0 => by simp [pjs]
 | _ :: l, i, j + 1 => by
  simp only [pjs, List.getElem?_cons_succ, pjs_at rs p l (i + 1) j, List.length_cons, Nat.add_lt_add_iff_right]
  have : i + 1 + j = i + (j + 1) := by omega
  rw [this]
theorem pjs_lt (rs : List Rt) (p : Nat) : ∀ (l : List Rt) (i k : Nat), p < k → ltX k (pjs rs p i l) = true
 | [], _, _, _ => rfl
 | _ :: l, i, k, h => by
  simp only [pjs, ltX, Ex.lt, lt_blt h, Bool.true_and]
  exact pjs_lt rs p l (i + 1) (k + 1) (by omega)
theorem conX_lt {c : Cn} {xs : List SV} {k : Nat} (h : SV.ltL k xs = true) : ltX k (conX c xs k) = true := by
 unfold conX
 split
 ·simp only [ltX, Ex.lt, h, Bool.and_self]
 ·simp only [ltX, Ex.lt, h, Bool.true_and]
  exact pjs_lt _ _ _ _ _ (Nat.lt_succ_self k)
theorem pjs_len (rs : List Rt) (p : Nat) : ∀ (l : List Rt) (i : Nat), (pjs rs p i l).length = l.length
 | [], _ => rfl
 | _ :: l, i => by simp [pjs, pjs_len rs p l (i + 1)]
theorem svOf_den {e : Env} {r : Rt} {i : Nat} {x : r.den} (h : Env.at e i = ⟨r, x⟩) : (svOf r i).den G e = Dyn.av ⟨r, x⟩ := by
 have ha : (Env.at e i).as r = x := by rw [h, as_mk]
 cases r with
 | st c =>
  show AV.agg (SV.denL G e (fsOf c i 0 (fT c))) = .agg ((cT c x).map .rv)
  rw [fs_den, ha]
 | _ => show AV.rv (rvT _ ((Env.at e i).as _)) = .rv (rvT _ x); rw [ha]
theorem svsOf_den {e : Env} : ∀ {rs : List Rt} {i : Nat} {ds : List Dyn}, ds.map Dyn.r = rs → (∀ j d, ds[j]? = some d → Env.at e (i + j) = d) → SV.denL G e (svsOf i rs) = ds.map Dyn.av
 | [], i, ds, h, _ => by cases map0 h; rfl
 | r :: rs, i, ds, h, hd => by
  obtain ⟨d, ds', rfl, h1, h2⟩ := map1 h
  subst h1
  have h0 := hd 0 d rfl
  simp only [svsOf, SV.denL, List.map_cons, List.cons.injEq]
  refine ⟨svOf_den (x := d.v) h0, svsOf_den h2 fun j d' hj => ?_⟩
  have := hd (j + 1) d' (by simpa using hj)
  rw [← this]; congr 1; omega
theorem fsOf_lt {c : TC} {i k : Nat} (h : i < k) : ∀ {rs : List Rt} {j : Nat}, SV.ltL k (fsOf c i j rs) = true
 | [], _ => rfl
 | r :: rs, j => by simp only [fsOf, SV.ltL, SV.lt, lt_blt h, fsOf_lt h (rs := rs), Bool.and_self]
theorem svOf_lt {r : Rt} {i k : Nat} (h : i < k) : (svOf r i).lt k = true := by
 cases r with
 | st c => exact fsOf_lt h
 | _ => exact lt_blt h
theorem svsOf_lt : ∀ {rs : List Rt} {i k : Nat}, i + rs.length ≤ k → SV.ltL k (svsOf i rs) = true
 | [], _, _, _ => rfl
 | r :: rs, i, k, h => by
  simp only [List.length_cons] at h
  simp only [svsOf, SV.ltL, svOf_lt (r := r) (show i < k by omega), svsOf_lt (rs := rs) (show i + 1 + rs.length ≤ k by omega), Bool.and_self]
theorem getL_at {α : Type} {d : α} : ∀ {l : List α} {i : Nat} {x : α}, l[i]? = some x → getL d l i = x
 | [], _, _, h => by cases h
 | y :: l, 0, x, h => by simpa [getL] using h
 | y :: l, i + 1, x, h => by
  simp only [getL]
  exact getL_at (by simpa using h)
theorem conV_den {c : Cn} {xs : List SV} {k : Nat} {e : Env} {y : (pL c.rs).den} (hl : SV.ltL k xs = true) (h0 : Env.at (envX M e k (conX c xs k)) k = ⟨pL c.rs, y⟩) :
    (conV c k).den G (envX M e k (conX c xs k)) = resA c.rs y := by
  have hat := envX_at (M := M) (e := e) (conX_lt (c := c) hl)
  obtain ⟨f, jj, ps, rs, cl⟩ := c
  show (conV ⟨f, jj, ps, rs, cl⟩ k).den G _ = resA rs y
  match rs, y, h0, hat with
  | [], y, h0, hat => rfl
  | [r], y, h0, hat => exact svOf_den h0
  | r :: s :: l, y, h0, hat =>
    have hds : (upL (r :: s :: l) y).map Dyn.r = r :: s :: l := upL_r
    have hres : resA (r :: s :: l) y = .tuple ((upL (r :: s :: l) y).map Dyn.av) := by
      unfold resA avL
      split
      · rename_i v hv
        have := congrArg List.length hds
        have h2 := congrArg List.length hv
        simp only [List.length_map, List.length_cons] at this h2
        simp only [List.length_nil] at h2
        omega
      · rfl
    rw [hres]
    show AV.tuple (SV.denL G _ (svsOf (k + 1) (r :: s :: l))) = _
    congr 1
    refine svsOf_den hds fun j d hj => ?_
    have hlen : j < (r :: s :: l).length := by
      have h1 := (List.getElem?_eq_some_iff.1 hj).1
      have := congrArg List.length hds
      rw [List.length_map] at this
      omega
    have h1 := hat (j + 1) (.pj (r :: s :: l) k j) (by
      show (Ex.ca jj xs :: pjs (r :: s :: l) k 0 (r :: s :: l))[j + 1]? = _
      rw [List.getElem?_cons_succ, pjs_at, if_pos hlen, Nat.zero_add])
    rw [show k + 1 + j = k + (j + 1) by omega, h1]
    simp only [Ex.den, h0, as_mk]
    exact getL_at hj
theorem conI_ok (hC : CnsOk P G M C) (hI : InlOk P G M inl) : InlOk P G M (conI C inl) := fun f as S e hb hl hf hs => by
 unfold conI at hs ⊢
 cases hc : lookCn f C with
 | none => simp only [hc] at hs ⊢; exact hI f as S e hb hl hf hs
 | some c =>
  simp only [hc] at hs ⊢
  cases hx : argVs S c.ps as with
  | none => simp only [hx] at hs ⊢; exact hI f as S e hb hl hf hs
  | some xs =>
   simp only [hx] at hs ⊢
   split at hs
   rotate_left
   ·exact hs.elim
   rename_i hk
   simp only [Bool.and_eq_true] at hk
   obtain ⟨⟨hr1, hr2⟩, hr3, hr4⟩ := hk
   obtain ⟨hm, hcf⟩ := lookCn_mem hc
   obtain ⟨g1, g2, g3, g4⟩ := hC c hm
   obtain ⟨hn, _⟩ := emit_safe hs
   have hlX := conX_lt (c := c) hr3
   have hag : Agr S.k e (envX M e S.k (conX c xs S.k)) := envX_agr (Nat.le_refl _)
   have hne : c.cl = false → Nd.ok M (envX M e S.k (conX c xs S.k)) (.ca c.j xs) := fun hcl => hn _ (by unfold conN; rw [hcl]; exact List.mem_singleton.2 rfl)
   obtain ⟨a1, a2, a3, a4⟩ := argVs_ok (G := G) (e := e) hx
   have hat := envX_at (M := M) (e := e) hlX 0 (.ca c.j xs) (by unfold conX; split <;> rfl)
   obtain ⟨cf, cj, cps, crs, ccl⟩ := c
   simp only at g1 g2 g3 g4 hcf hr1 hr2 hr3 hr4 hlX hag hne a1 a2 a3 a4 hat hx
   subst g1 g2 hcf
   simp only [Nat.add_zero, Ex.den] at hat
   simp only [Nd.ok] at hne
   rw [valL_agr hag hr3] at hat
   have hcall := g3 (pkL _ (valL e (getL Md.d M cj).ps xs)) (by
    cases ccl with
    | true => rw [g4 rfl]; trivial
    | false =>
     have := hne rfl
     rw [valL_agr hag hr3] at this
     exact this)
   have hav : avL (getL Md.d M cj).ps (pkL (getL Md.d M cj).ps (valL e (getL Md.d M cj).ps xs)) = (valL e (getL Md.d M cj).ps xs).map Dyn.av := by
    unfold avL; rw [upL_pkL a4]
   rw [hav] at hcall
   have hv := conV_den (G := G) (c := ⟨cf, cj, (getL Md.d M cj).ps, (getL Md.d M cj).rs, ccl⟩) hr3 hat
   have hfin : ACalls P G cf (SV.denL G e as) (denH G e S.h) S.n fun r τ => τ = denH G e S.h ∧ ∃ _ : Heap, r = resA (getL Md.d M cj).rs ((getL Md.d M cj).m (pkL _ (valL e (getL Md.d M cj).ps xs))) := by
    cases hns : noSl as with
    | true =>
     rw [a3 hns] at a1 a2
     exact ((hcall.arg a1).frame a2 fun r τ hr => by rw [hr]; exact resA_pure).res fun r τ ⟨h1, τ', h2⟩ => ⟨h1, τ', h2⟩
    | false =>
     rw [hns, Bool.false_or] at hr2
     exact (hcall.lend a1 a2 fun r τ hr => by rw [hr]; exact resA_scal hr2).res fun r τ ⟨h1, τ', h2⟩ => ⟨h1, τ', h2⟩
   refine hfin.res fun r τ ⟨h1, _, h2⟩ => ⟨_, _, by rw [emit_run]; rfl, ?_, ?_, ?_, ?_, hag, Nat.le_add_right _ _⟩
   ·rw [h2, ← hv]
    show _ = SV.den G _ (SS.at (conS S _ _) 0)
    unfold conS SS.at
    simp only [Tri.get_put, if_true]
   ·rw [h1]; exact (denH_agr hag hb.h).symm
   ·refine ⟨fun i x hi => ?_, ltH_mono (Nat.le_add_right _ _) hb.h, ltG_mono (Nat.le_add_right _ _) hb.g⟩
    simp only [conS, Tri.get_put] at hi
    split at hi
    ·cases hi
     show (conV _ S.k).lt (S.k + _) = true
     unfold conV conX
     split
     ·exact svOf_lt (Nat.lt_succ_self _)
     ·simp only [SV.lt]
      refine svsOf_lt ?_
      simp only [List.length_cons, pjs_len]
      omega
    ·simp [Tri.get] at hi
   ·exact fok_keep hag hb.g hf
end
end Go.Av
namespace Go.Av
open Go

section
variable {P : Program} {G : Glob} {f : FuncId} {args : List AV} {R : AV → Heap → Prop}
theorem ACalls.ret (r' : Prop → AV → Prop) (h : ACalls P G f args [] 0 R) {Q : AV → Prop} (hR : ∀ r τ, R r τ → ∃ v, Sub (lendA τ r) v ∧ pureA v = true ∧ Q v) : ACalls P G f args [] 0 fun v _ => Q v := by
 intro w β ro cargs h1 h2 h3 h4 h5
 refine Calls.mono (h w β ro cargs h1 h2 h3 h4 h5) fun e w' ⟨v, r, τ, β', ro', n', he, hr, hrel, hh', ht'⟩ => ?_
 obtain ⟨u, hu, hp, hq⟩ := hR r τ hr
 have ownLt : ∀ b, Own τ β' b → b < w'.heap.size := fun b ⟨k, p, hk, hp, hbk⟩ => (hh'.objs k p hk).blkLt hp hbk
 refine ⟨v, u, [], β', lent ro' τ β', n', he, hq, pure_rel (hu _ _ _ _ _ _ (lend_rel hh' hrel)) hp, ⟨by simp [hget], by simp [hget], fun b _ => noOwn β' b, fun b hb => hb.elim (hh'.lt b) (ownLt b)⟩,
  ⟨ht'.os, ht'.tape, ht'.output, ht'.size, ht'.frame, fun b hb => ?_, fun b hb => .inl (ht'.roKeep b hb), fun b hb => absurd hb (noOwn β' b), by simp [hget], by simp [hget], ht'.le⟩⟩
 rcases hb with hb | hb
 ·exact ht'.roSub b hb
 ·exact .inr (ht'.ownSub b hb)
end

def envA : Nat → List Dyn → Env
 | _, [] => .emp
 | i, d :: ds => Tri.put (envA (i + 1) ds) i d
theorem envA_at : ∀ {ds : List Dyn} {i j : Nat} {d : Dyn}, ds[j]? = some d → Env.at (envA i ds) (i + j) = d
 | [], _, _, _, h => by cases h
 | x :: ds, i, 0, d, h => by
  have h : x = d := by simpa using h
  simp only [envA, Env.at_put, Nat.add_zero, if_true, h]
 | x :: ds, i, j + 1, d, h => by
  have := envA_at (i := i + 1) (show ds[j]? = some d by simpa using h)
  simp only [envA, Env.at_put]
  rw [if_neg (by omega), ← this]
  congr 1
  omega
def partsR (rs : List Rt) (v : SV) : List SV :=
 match rs, v with
 | [_], v => [v]
 | _, .tp l => l
 | _, x => [x]
def tupR (rs : List Rt) (v : SV) : Bool :=
 match rs, v with
 | [_], _ => true
 | _, .tp _ => true
 | _, _ => false
def resC (rs : List Rt) (C : SS) : Option (List SV) :=
 match tupR rs (C.at 0) with
 | true => argVs C rs (partsR rs (C.at 0))
 | false => none
def endOk (rs : List Rt) (C : SS) : Bool := (resC rs C).isSome
def resM (rs : List Rt) (C : SS) (e : Env) : (pL rs).den :=
 match resC rs C with
 | some l => pkL rs (valL e rs l)
 | none => (pL rs).dflt
def modelT (M : List Md) (t : Tr) (rs : List Rt) (e : Env) : (pL rs).den := t.fold M e (fun _ C e' => resM rs C e') (pL rs).dflt
def S00 (n : Nat) : SS := ⟨.emp, [], 0, n, []⟩
section
variable {P : Program} {G : Glob} {M : List Md} {C : List Cn} {inl : Nat → List SV → SS → Tr}
theorem resC_sub {rs : List Rt} {S : SS} {e : Env} {l : List SV} (h : resC rs S = some l) : Sub (lendA (denH G e S.h) ((S.at 0).den G e)) (resA rs (pkL rs (valL e rs l))) := by
 unfold resC at h
 split at h
 rotate_left
 ·cases h
 rename_i ht
 obtain ⟨a1, _, _, a4⟩ := argVs_ok (G := G) (e := e) h
 have hav : avL rs (pkL rs (valL e rs l)) = (valL e rs l).map Dyn.av := by unfold avL; rw [upL_pkL a4]
 unfold resA
 rw [hav]
 match rs, a1, a4, ht with
 | [r], a1, a4, ht =>
  obtain ⟨d, ds', hv, h1, h2⟩ := map1 a4
  cases map0 h2
  rw [hv] at a1 ⊢
  simp only [partsR, SV.denL, lendL, List.map_cons, List.map_nil] at a1 ⊢
  cases a1 with
  | cons h _ => exact h
 | [], a1, a4, ht =>
  cases hv : S.at 0 with
  | tp m =>
   rw [hv] at a1
   rw [map0 a4]
   rw [map0 a4] at a1
   exact a1.tuple
  | _ => rw [hv] at ht; cases ht
 | r :: s :: q, a1, a4, ht =>
  cases hv : S.at 0 with
  | tp m =>
   rw [hv] at a1
   have hl := congrArg List.length a4
   simp only [List.length_map, List.length_cons] at hl
   generalize valL e (r :: s :: q) l = ds at a1 hl ⊢
   match ds, hl with
   | d :: d2 :: ds, _ => exact a1.tuple
  | _ => rw [hv] at ht; cases ht
theorem nrms_all {t : Tr} {p : SS → Bool} (h : t.nrms.all p = true) {e e' : Env} {S : SS} (hr : run M t e = some (.nrm, S, e')) : p S = true := List.all_eq_true.1 h S (nrms_mem hr)
theorem md_ok (hI : InlOk P G M inl) {f : Nat} {m : Md} (t : Tr) (ht : inl f (svsOf 0 m.ps) (S00 m.ps.length) = t) (he : t.nrms.all (endOk m.rs) = true)
    (hs : ∀ x, preOk m.pre x → t.safe M (envA 0 (upL m.ps x))) (hm : ∀ x, preOk m.pre x → modelT M t m.rs (envA 0 (upL m.ps x)) = m.m x) : MdOk P G f m := fun x hx => by
  subst ht
  have hl : m.ps.length = (upL m.ps x).length := by have := congrArg List.length (upL_r (rs := m.ps) (x := x)); rw [List.length_map] at this; exact this.symm
  have h := hI f (svsOf 0 m.ps) (S00 m.ps.length) (envA 0 (upL m.ps x)) ⟨fun i x hi => by simp [S00, Tri.get] at hi, rfl, rfl⟩ (svsOf_lt (by show 0 + _ ≤ m.ps.length; omega)) (fun c hc => by cases hc) (hs x hx)
  have hd : SV.denL G (envA 0 (upL m.ps x)) (svsOf 0 m.ps) = avL m.ps x := svsOf_den upL_r fun j d hj => envA_at hj
  rw [hd] at h
  refine (ACalls.ret (fun _ _ => True) h (Q := fun v => v = resA m.rs (m.m x)) fun r τ hr => ?_)
  obtain ⟨S1, e', hrun, rfl, rfl, _⟩ := hr
  have hok := nrms_all he hrun
  obtain ⟨l, hlc⟩ := Option.isSome_iff_exists.1 hok
  refine ⟨_, resC_sub hlc, resA_pure, ?_⟩
  have := hm x hx
  unfold modelT at this
  rw [run_fold hrun] at this
  unfold resM at this
  rw [hlc] at this
  rw [← this]
theorem clean_md (hI : InlOk P G M inl) {f : Nat} {m : Md} (t : Tr) (ht : inl f (svsOf 0 m.ps) (S00 m.ps.length) = t) (he : (t.clean && t.nrms.all (endOk m.rs)) = true)
    (hm : ∀ x, modelT M t m.rs (envA 0 (upL m.ps x)) = m.m x) : MdOk P G f m := by
  simp only [Bool.and_eq_true] at he
  exact md_ok hI t ht he.2 (fun _ _ => clean_safe M he.1) fun x _ => hm x

theorem CnsOk.nil : CnsOk P G M [] := fun _ h => by cases h
theorem CnsOk.cons {c : Cn} (h : CnOk P G M c) (hC : CnsOk P G M C) : CnsOk P G M (c :: C) := fun d hd => by
 rcases List.mem_cons.1 hd with rfl | hd
 ·exact h
 ·exact hC d hd
end
end Go.Av
namespace Go.Av
open Go

def Tr.fold2 (M : List Md) : Tr → {X : Type} → Env → (Ek → SS → Env → X) → X → X
  | .lf x S, _, e, K, _ => K x S e
  | .lt i x t, _, e, K, d => t.fold2 M (Tri.put e i (x.den M e)) K d
  | .nd _ t, _, e, K, d => t.fold2 M e K d
  | .it g a b, _, e, K, d => bif g.get1 e .bool then a.fold2 M e K d else b.fold2 M e K d
  | .jn n a ps k, _, e, K, d => a.fold2 M e (fun x S e' => bif x.isJ n then k.fold2 M (setP e (fun r p => ⟨r, (p.sv S).get e' r⟩) ps) K d else K x S e') d
  | .lp m xid bd ix ca a k, X, e, K, d => Sum.elim (fun r => r) (fun v => k.fold2 M (setC e ca v) K d)
      (loopS (fun i (v : caR ca) => (a.fold2 M (setC (Tri.put e ix ⟨.int .i64, (i : Int)⟩) ca v) (endR m xid ca K) (.brk v) : Step X (caR ca))) 0 (intD (bd.den M e)).toNat (pkL _ (caV e ca)))
  | .lg m xid ca a k, X, e, K, d => Sum.elim (fun r => r) (fun v => k.fold2 M (setC e ca v) K d)
      (loopW (fun v => (a.fold2 M (setC e ca v) (endR m xid ca K) (.brk v) : Step X (caR ca))) fuelW (pkL _ (caV e ca)))
  | .bad _, _, _, _, d => d
section
variable {M : List Md}
theorem fold2_eq : ∀ (t : Tr) {X : Type} (e : Env) (K : Ek → SS → Env → X) (d : X), t.fold2 M e K d = t.fold M e K d
 | .lf _ _, _, _, _, _ => rfl
 | .lt i x t, _, e, K, d => fold2_eq t _ K d
 | .nd _ t, _, e, K, d => fold2_eq t _ K d
 | .it g a b, _, e, K, d => by simp only [Tr.fold2, Tr.fold, fold2_eq a, fold2_eq b]
 | .jn n a ps k, X, e, K, d => by
  show a.fold2 M e (fun x S e' => bif x.isJ n then k.fold2 M (setP e (fun r p => ⟨r, (p.sv S).get e' r⟩) ps) K d else K x S e') d = (Tr.jn n a ps k).fold M e K d
  rw [fold2_eq a]
  cases hr : run M a e with
  | none => rw [run_none hr, run_jn_n hr]
  | some l =>
   obtain ⟨x, S, e'⟩ := l
   rw [run_fold hr]
   cases hx : x.isJ n with
   | true => rw [cond_true, run_jn_t hr hx, fold2_eq k]
   | false => rw [cond_false, run_jn_f hr hx]
 | .lp m xid bd ix ca a k, X, e, K, d => by
  rw [fold_lp]
  simp only [Tr.fold2, fold2_eq a, fold2_eq k]
 | .lg m xid ca a k, X, e, K, d => by
  simp only [Tr.fold2, Tr.fold, fold2_eq a, fold2_eq k]
 | .bad _, _, _, _, _ => rfl

def Tr.wp (M : List Md) : Tr → Env → (Ek → SS → Env → Prop) → Prop
  | .lf x S, e, Q => Q x S e
  | .lt i x t, e, Q => t.wp M (Tri.put e i (x.den M e)) Q
  | .nd n t, e, Q => n.ok M e ∧ t.wp M e Q
  | .it g a b, e, Q => (g.get1 e .bool = true → a.wp M e Q) ∧ (g.get1 e .bool = false → b.wp M e Q)
  | .jn n a ps k, e, Q => a.wp M e fun x S e' => bif x.isJ n then k.wp M (setP e (fun r p => ⟨r, (p.sv S).get e' r⟩) ps) Q else Q x S e'
  | .lp m xid bd ix ca a k, e, Q => ∃ I : Nat → caR ca → Prop, I 0 (pkL _ (caV e ca)) ∧ (∀ (i : Nat) (v : caR ca), i < (intD (bd.den M e)).toNat → I i v →
      a.wp M (setC (Tri.put e ix ⟨.int .i64, (i : Int)⟩) ca v) fun x S e' => bif x.isJ m then I (i + 1) (pkL _ (caE S e' ca)) else bif x.isX xid then k.wp M (setC e ca (pkL _ (caE S e' ca))) Q else Q x S e') ∧
      ∀ v, I (intD (bd.den M e)).toNat v → k.wp M (setC e ca v) Q
  | .lg m xid ca a k, e, Q => ∃ (I : caR ca → Prop) (μ : caR ca → Nat), I (pkL _ (caV e ca)) ∧ μ (pkL _ (caV e ca)) < fuelW ∧ ∀ (v : caR ca), I v →
      a.wp M (setC e ca v) fun x S e' => bif x.isJ m then I (pkL _ (caE S e' ca)) ∧ μ (pkL _ (caE S e' ca)) < μ v else bif x.isX xid then k.wp M (setC e ca (pkL _ (caE S e' ca))) Q else Q x S e'
  | .bad _, _, _ => False
theorem loopS_wp {R A : Type} {b : Nat → A → Step R A} (I : Nat → A → Prop) (QR : R → Prop) (QB : A → Prop) (n : Nat) (h : ∀ i v, i < n → I i v → (∀ r, b i v = .ret r → QR r) ∧ (∀ v', b i v = .brk v' → QB v') ∧ ∀ v', b i v = .nxt v' → I (i + 1) v')
    (he : ∀ v, I n v → QB v) : ∀ (m k : Nat) (a : A), k + m = n → I k a → (∀ r, loopS b k m a = .inl r → QR r) ∧ ∀ v, loopS b k m a = .inr v → QB v
  | 0, k, a, hn, hi => by
    have : k = n := by omega
    subst this
    exact ⟨fun r hr => (by cases hr), fun v hv => (by cases hv; exact he a hi)⟩
  | m + 1, k, a, hn, hi => by
    obtain ⟨h1, h2, h3⟩ := h k a (by omega) hi
    simp only [loopS]
    cases hb : b k a with
    | ret r => exact ⟨fun r' hr => (by cases hr; exact h1 r hb), fun v hv => (by cases hv)⟩
    | brk v => exact ⟨fun r' hr => (by cases hr), fun v' hv => (by cases hv; exact h2 v hb)⟩
    | nxt v => exact loopS_wp I QR QB n h he m (k + 1) v (by omega) (h3 v hb)
theorem loopW_wp {R A : Type} {b : A → Step R A} (I : A → Prop) (μ : A → Nat) (QR : R → Prop) (QB : A → Prop) (h : ∀ v, I v → (∀ r, b v = .ret r → QR r) ∧ (∀ v', b v = .brk v' → QB v') ∧ ∀ v', b v = .nxt v' → I v' ∧ μ v' < μ v) :
    ∀ (m : Nat) (a : A), μ a < m → I a → endsW b m a ∧ (∀ r, loopW b m a = .inl r → QR r) ∧ ∀ v, loopW b m a = .inr v → QB v
  | 0, a, hm, _ => absurd hm (Nat.not_lt_zero _)
  | m + 1, a, hm, hi => by
    obtain ⟨h1, h2, h3⟩ := h a hi
    simp only [loopW, endsW]
    cases hb : b a with
    | ret r => exact ⟨trivial, fun r' hr => (by cases hr; exact h1 r hb), fun v hv => (by cases hv)⟩
    | brk v => exact ⟨trivial, fun r' hr => (by cases hr), fun v' hv => (by cases hv; exact h2 v hb)⟩
    | nxt v =>
      obtain ⟨g1, g2⟩ := h3 v hb
      exact loopW_wp I μ QR QB h m v (by omega) g1
def EndIs (M : List Md) (t : Tr) (e : Env) (Q : Ek → SS → Env → Prop) : Prop := ∃ x S e', run M t e = some (x, S, e') ∧ Q x S e'
theorem rnd_wp {m xid : Nat} {ca : List Ca} {a : Tr} {e : Env} {v : caR ca} {J : caR ca → Prop} {B : caR ca → Prop} {Q : Ek → SS → Env → Prop}
    (h : EndIs M a e fun x S e' => bif x.isJ m then J (pkL _ (caE S e' ca)) else bif x.isX xid then B (pkL _ (caE S e' ca)) else Q x S e') :
    (∀ r, rnd M m xid ca a e v = .ret r → ∃ x S e', r = some (x, S, e') ∧ Q x S e') ∧ (∀ v', rnd M m xid ca a e v = .brk v' → B v') ∧ ∀ v', rnd M m xid ca a e v = .nxt v' → J v' := by
  obtain ⟨x, S, e', hr, hq⟩ := h
  unfold rnd
  rw [hr]
  simp only
  cases hx : x.isJ m with
  | true =>
    rw [hx, cond_true] at hq
    rw [endR_J hx]
    exact ⟨fun r hh => (by cases hh), fun v' hh => (by cases hh), fun v' hh => (by cases hh; exact hq)⟩
  | false =>
    rw [hx, cond_false] at hq
    cases hy : x.isX xid with
    | true =>
      rw [hy, cond_true] at hq
      rw [endR_X hx hy]
      exact ⟨fun r hh => (by cases hh), fun v' hh => (by cases hh; exact hq), fun v' hh => (by cases hh)⟩
    | false =>
      rw [hy, cond_false] at hq
      rw [endR_R hx hy]
      exact ⟨fun r hh => (by cases hh; exact ⟨_, _, _, rfl, hq⟩), fun v' hh => (by cases hh), fun v' hh => (by cases hh)⟩
theorem wp_ok : ∀ (t : Tr) {e : Env} {Q : Ek → SS → Env → Prop}, t.wp M e Q → t.safe M e ∧ EndIs M t e Q
  | .lf x S, e, Q, h => ⟨trivial, x, S, e, rfl, h⟩
  | .lt i x t, e, Q, h => wp_ok t (e := Tri.put e i (x.den M e)) h
  | .nd n t, e, Q, h => ⟨⟨h.1, (wp_ok t h.2).1⟩, (wp_ok t h.2).2⟩
  | .it g a b, e, Q, h => by
    refine ⟨⟨fun hg => (wp_ok a (h.1 hg)).1, fun hg => (wp_ok b (h.2 hg)).1⟩, ?_⟩
    cases hg : g.get1 e .bool with
    | true =>
      obtain ⟨x, S, e', h1, h2⟩ := (wp_ok a (h.1 hg)).2
      exact ⟨x, S, e', by rw [run_it hg]; exact h1, h2⟩
    | false =>
      obtain ⟨x, S, e', h1, h2⟩ := (wp_ok b (h.2 hg)).2
      exact ⟨x, S, e', by rw [run_it hg]; exact h1, h2⟩
  | .jn n a ps k, e, Q, h => by
    obtain ⟨h1, x, S1, e1, hr, h3⟩ := wp_ok a h
    cases hx : x.isJ n with
    | true =>
      rw [hx, cond_true] at h3
      obtain ⟨k1, x', S', e', k2, k3⟩ := wp_ok k h3
      refine ⟨⟨h1, fun _ => ?_⟩, x', S', e', by unfold run; rw [run_jn_t hr hx]; exact k2, k3⟩
      have : (fun (r : Rt) (p : Pl) => (⟨r, bif a.allJ n
          then a.fold M e (fun _ S e' => (p.sv S).get e' r) r.dflt
          else a.fold M e (fun x S e' => bif x.isJ n then (p.sv S).get e' r else r.dflt) r.dflt⟩ : Dyn)) = fun r p => ⟨r, (p.sv S1).get e1 r⟩ := by
        funext r p
        simp only [run_fold hr, hx]
        cases a.allJ n <;> rfl
      rw [this]
      exact k1
    | false =>
      rw [hx, cond_false] at h3
      exact ⟨⟨h1, fun hj => by rw [run_fold hr, hx] at hj; cases hj⟩, x, S1, e1, by unfold run; rw [run_jn_f hr hx], h3⟩
  | .lp m xid bd ix ca a k, e, Q, h => by
    obtain ⟨I, h0, hb, he⟩ := h
    have hstep := fun (i : Nat) (v : caR ca) hi hv => wp_ok a (hb i v hi hv)
    have hround := fun (i : Nat) (v : caR ca) hi hv => rnd_wp (v := v) (J := I (i + 1)) (B := fun v' => k.wp M (setC e ca v') Q) (Q := Q) (hstep i v hi hv).2
    obtain ⟨w1, w2⟩ := loopS_wp I (fun r => ∃ x S e', r = some (x, S, e') ∧ Q x S e') (fun v => k.wp M (setC e ca v) Q) (intD (bd.den M e)).toNat hround (fun v hv => he v hv) (intD (bd.den M e)).toNat 0 _ (Nat.zero_add _) h0
    have hun : (fun (i : Nat) (v : caR ca) => (a.fold M (setC (Tri.put e ix ⟨.int .i64, (i : Int)⟩) ca v) (endR m xid ca fun _ _ _ => ()) (.brk v) : Step Unit (caR ca))) = fun (i : Nat) v => stepO (fun _ => ()) (rnd M m xid ca a (setC (Tri.put e ix ⟨.int .i64, (i : Int)⟩) ca v) v) := by
      funext i v
      exact unit_rnd ..
    have hmap := loopS_map (fun _ : Option Leaf => ()) (b := fun (i : Nat) v => rnd M m xid ca a (setC (Tri.put e ix ⟨.int .i64, (i : Int)⟩) ca v) v) (c := fun (i : Nat) v => stepO (fun _ => ()) (rnd M m xid ca a (setC (Tri.put e ix ⟨.int .i64, (i : Int)⟩) ca v) v)) (fun _ _ => rfl) (intD (bd.den M e)).toNat 0 (pkL _ (caV e ca))
    refine ⟨⟨⟨I, h0, fun i v hi hv => ⟨(hstep i v hi hv).1, fun v' hn => (hround i v hi hv).2.2 v' ?_⟩⟩, ?_⟩, ?_⟩
    · rw [unit_rnd] at hn
      exact nxt_stepO hn
    · rw [hun, hmap]
      cases hl : loopS (fun (i : Nat) v => rnd M m xid ca a (setC (Tri.put e ix ⟨.int .i64, (i : Int)⟩) ca v) v) 0 (intD (bd.den M e)).toNat (pkL _ (caV e ca)) with
      | inl r => trivial
      | inr v => exact (wp_ok k (w2 v hl)).1
    · unfold EndIs
      rw [run_lp]
      cases hl : loopS (fun (i : Nat) v => rnd M m xid ca a (setC (Tri.put e ix ⟨.int .i64, (i : Int)⟩) ca v) v) 0 (intD (bd.den M e)).toNat (pkL _ (caV e ca)) with
      | inl r => exact w1 r hl
      | inr v => exact (wp_ok k (w2 v hl)).2
  | .lg m xid ca a k, e, Q, h => by
    obtain ⟨I, μ, h0, hm, hb⟩ := h
    have hstep := fun (v : caR ca) hv => wp_ok a (hb v hv)
    have hround := fun (v : caR ca) hv => rnd_wp (v := v) (J := fun v' => I v' ∧ μ v' < μ v) (B := fun v' => k.wp M (setC e ca v') Q) (Q := Q) (hstep v hv).2
    obtain ⟨w0, w1, w2⟩ := loopW_wp I μ (fun r => ∃ x S e', r = some (x, S, e') ∧ Q x S e') (fun v => k.wp M (setC e ca v) Q) hround fuelW _ hm h0
    have hun : (fun (v : caR ca) => (a.fold M (setC e ca v) (endR m xid ca fun _ _ _ => ()) (.brk v) : Step Unit (caR ca))) = fun v => stepO (fun _ => ()) (rnd M m xid ca a (setC e ca v) v) := by
      funext v
      exact unit_rnd ..
    have hmap := loopW_map (fun _ : Option Leaf => ()) (b := fun v => rnd M m xid ca a (setC e ca v) v) (c := fun v => stepO (fun _ => ()) (rnd M m xid ca a (setC e ca v) v)) (fun _ => rfl) fuelW (pkL _ (caV e ca))
    have hends := endsW_map (fun _ : Option Leaf => ()) (b := fun v => rnd M m xid ca a (setC e ca v) v) (c := fun v => stepO (fun _ => ()) (rnd M m xid ca a (setC e ca v) v)) (fun _ => rfl) fuelW (pkL _ (caV e ca))
    refine ⟨⟨⟨I, h0, fun v hv => ⟨(hstep v hv).1, fun v' hn => ((hround v hv).2.2 v' ?_).1⟩⟩, ?_, ?_⟩, ?_⟩
    · rw [unit_rnd] at hn
      exact nxt_stepO hn
    · rw [hun]
      exact hends.2 w0
    · rw [hun, hmap]
      cases hl : loopW (fun v => rnd M m xid ca a (setC e ca v) v) fuelW (pkL _ (caV e ca)) with
      | inl r => trivial
      | inr v => exact (wp_ok k (w2 v hl)).1
    · unfold EndIs
      rw [run_lg]
      cases hl : loopW (fun v => rnd M m xid ca a (setC e ca v) v) fuelW (pkL _ (caV e ca)) with
      | inl r => exact w1 r hl
      | inr v => exact (wp_ok k (w2 v hl)).2
  | .bad _, _, _, h => h.elim
end

def modelR (M : List Md) (t : Tr) (rs : List Rt) (e : Env) : (pL rs).den := t.fold2 M e (fun _ C e' => resM rs C e') (pL rs).dflt
section
variable {P : Program} {G : Glob} {M : List Md} {inl : Nat → List SV → SS → Tr}
theorem md_clean (hI : InlOk P G M inl) {f : Nat} {m : Md} (t : Tr) (ht : inl f (svsOf 0 m.ps) (S00 m.ps.length) = t) (he : (t.clean && t.nrms.all (endOk m.rs)) = true)
    (hm : ∀ x, modelR M t m.rs (envA 0 (upL m.ps x)) = m.m x) : MdOk P G f m :=
  clean_md hI t ht he fun x => by rw [← hm x]; exact (fold2_eq t _ _ _).symm
theorem md_wp (hI : InlOk P G M inl) {f : Nat} {m : Md} (t : Tr) (ht : inl f (svsOf 0 m.ps) (S00 m.ps.length) = t) (he : t.nrms.all (endOk m.rs) = true)
    (hs : ∀ x, preOk m.pre x → t.wp M (envA 0 (upL m.ps x)) fun _ _ _ => True) (hm : ∀ x, modelR M t m.rs (envA 0 (upL m.ps x)) = m.m x) : MdOk P G f m :=
  md_ok hI t ht he (fun x hx => (wp_ok t (hs x hx)).1) fun x _ => by rw [← hm x]; exact (fold2_eq t _ _ _).symm
end
end Go.Av
namespace Go.Av
open Go

section
variable {P : Program} {G : Glob} {f : FuncId} {args : List AV} {σ : Heap} {n : Nat}
theorem ACalls.frameB {t : TypeId} {cs cs0 : List AV} {R : AV → List AV → Prop} (h : ACalls P G f (.ptr 0 0 :: args) [(0, .box t cs)] 1 fun r τ => ∃ cs', τ = [(0, .box t cs')] ∧ R r cs') (hp : pureL args = true) (hcs : pureL cs = true)
    (hR : ∀ r cs', R r cs' → scalA r = true ∧ scalL cs' = true) {id : Nat} (hid : hget σ id = some (.box t cs0)) (hsub : SubA cs0 cs) :
    ACalls P G f (.ptr id 0 :: args) σ n fun r τ => ∃ cs', τ = hset σ id (.box t cs') ∧ R r cs' := by
  intro w β ro cargs h1 h2 h3 h4 h5
  have hO := h3.objs id _ hid
  cases hO with
  | box _ _ b arr e1 e2 e3 e4 =>
    have own0 : ∀ k, Own [(0, AObj.box t cs)] (fun _ => β id) k → blk (β id) = some k := fun k ⟨i, o, hg, _, hb⟩ => hb
    have hH : HRel w ro [(0, .box t cs)] (fun _ => β id) 1 := by
      refine ⟨fun i o hg => ?_, fun i i' o o' k hg hg' _ _ _ _ => ?_, fun k hk ho => h3.disj k hk ⟨id, _, hid, rfl, own0 k ho⟩, h3.lt⟩
      · simp only [hget] at hg
        split at hg
        · rename_i hi
          subst hi
          cases hg
          refine .box t cs b arr e1 e2 (by rw [e3, hsub.at.1]) fun j x hj => ?_
          obtain ⟨y, hy, hs⟩ := hsub.at.2 j x hj
          exact pure_rel (hs _ _ _ _ _ _ (e4 j y hy)) (pureL_at hcs hj)
        · cases hg
      · simp only [hget] at hg hg'
        split at hg
        · split at hg'
          · rename_i a1 a2; rw [← a1, ← a2]
          · cases hg'
        · cases hg
    refine Calls.mono (h w (fun _ => β id) ro cargs h1 (fun i x hx => ?_) hH h4 (fun i o hg => ?_)) fun e w' ⟨v, r, τ', β', ro', n', he, ⟨cs', hτ, hr⟩, hrel, hh', ht'⟩ => ?_
    · cases i with
      | zero =>
        simp only [List.getElem?_cons_zero, Option.some.injEq] at hx
        subst hx
        have := h2 0 _ rfl
        generalize cargs.getD 0 undef = c0 at this ⊢
        cases this with
        | ptr _ _ _ hl hpp =>
          refine .ptr 0 0 c0 Nat.one_pos fun t' cs' hg => ?_
          exact hpp t cs0 hid
      | succ i => exact pure_rel (h2 (i + 1) x (by simpa using hx)) (pureL_at hp (by simpa using hx))
    · simp only [hget] at hg
      split at hg
      · rename_i hi; rw [← hi]; exact Nat.one_pos
      · cases hg
    · subst hτ
      obtain ⟨hs1, hs2⟩ := hR r cs' hr
      have hE : RelAt ⟨w, ro, σ, β, n⟩ G ⟨[], σ, n, n⟩ ⟨#[], []⟩ w β ro := ⟨rfl, rfl, by simp, h3, h4, ⟨rfl, rfl, rfl, Nat.le_refl _, fun _ _ _ => rfl, fun _ h => .inl h, fun _ h => h, fun _ h => .inl h, fun id _ o hg => ⟨by simp [hg], rfl⟩, h5, Nat.le_refl _⟩, Nat.le_refl _⟩
      have hβ : β' 0 = β id := (ht'.old 0 Nat.one_pos (.box t cs') (by simp [hget])).2
      have hw := hE.write (w' := w') id _ (.box t cs') hid rfl rfl (.inl ⟨t, cs0, cs', rfl, rfl⟩) ht'.os ht'.tape ht'.output ht'.size (fun k hk hne => ht'.frame k hk fun ho => hne (own0 k ho)) (by
        have hO' := hh'.objs 0 (.box t cs') (by simp [hget])
        cases hO' with
        | box _ _ b' arr' g1 g2 g3 g4 =>
          exact .box t cs' b' arr' (by rw [← hβ]; exact g1) g2 g3 fun j x hj => scal_rel (g4 j x hj) (scalL_at hs2 hj))
      exact ⟨v, r, hset σ id (.box t cs'), β, ro, n, he, ⟨cs', rfl, hr⟩, scal_rel hrel hs1, hw.heap, hw.trans⟩
end

def headC (ds : List Dyn) : List AV :=
 match ds with
 | ⟨.st c, x⟩ :: _ => (cT c x).map .rv
 | _ => []
def resT (ds : List Dyn) : AV :=
 match ds.tail.map Dyn.av with
 | [v] => v
 | l => .tuple l
def MdOkB (P : Program) (G : Glob) (f : Nat) (t : TypeId) (m : Md) : Prop :=
 ∀ x : (pL m.ps).den, preOk m.pre x → ACalls P G f (.ptr 0 0 :: (upL m.ps x).tail.map Dyn.av) [(0, .box t (headC (upL m.ps x)))] 1 fun v τ => ∃ cs', τ = [(0, .box t cs')] ∧ v = resT (upL m.rs (m.m x)) ∧ cs' = headC (upL m.rs (m.m x))
structure Cb where
 f : Nat
 j : Nat
 t : TypeId
 c : TC
 ps : List Rt
 rs : List Rt
 cl : Bool
def Cb.cn (b : Cb) : Cn := ⟨b.f, b.j, .st b.c :: b.ps, .st b.c :: b.rs, b.cl⟩
def CbOk (P : Program) (G : Glob) (M : List Md) (b : Cb) : Prop :=
 (getL Md.d M b.j).ps = .st b.c :: b.ps ∧ (getL Md.d M b.j).rs = .st b.c :: b.rs ∧ MdOkB P G b.f b.t (getL Md.d M b.j) ∧ (b.cl = true → (getL Md.d M b.j).pre = none)
def CbsOk (P : Program) (G : Glob) (M : List Md) (C : List Cb) : Prop := ∀ b ∈ C, CbOk P G M b
def lookCb (f : Nat) : List Cb → Option Cb
 | [] => none
 | c :: r => match Nat.beq c.f f with
  | true => some c
  | false => lookCb f r
theorem lookCb_mem {f : Nat} {c : Cb} : ∀ {C : List Cb}, lookCb f C = some c → c ∈ C ∧ c.f = f
 | [], h => by cases h
 | d :: r, h => by
  unfold lookCb at h
  split at h
  ·rename_i hd; cases h; exact ⟨List.mem_cons_self .., Nat.eq_of_beq_eq_true hd⟩
  ·obtain ⟨h1, h2⟩ := lookCb_mem h; exact ⟨List.mem_cons_of_mem _ h1, h2⟩
def baseN (rs : List Rt) (k : Nat) : Nat :=
 match rs with
 | [_] => k
 | _ => k + 1
def resB (rs : List Rt) (k : Nat) : SV :=
 match rs with
 | [r] => svOf r k
 | rs => .tp (svsOf k rs)
def conBS (b : Cb) (S : SS) (id : Nat) (xs : List SV) : SS :=
 ⟨Tri.put .emp 0 (resB b.rs (baseN b.cn.rs S.k + 1)), setH S.h id (.bx b.t (fsOf b.c (baseN b.cn.rs S.k) 0 (fT b.c))), S.n, S.k + (conX b.cn xs S.k).length, S.g⟩
def conBok (b : Cb) (S : SS) (t : TypeId) (l rest xs : List SV) : Bool :=
 (Nat.beq t b.t && (isL (fT b.c) l && SV.ltL S.k l)) && ((noSl rest && SV.ltL S.k xs) && ((Rt.st b.c).scal && (b.rs.all Rt.scal && b.rs.all Rt.okR)))
def conB (C : List Cb) (inl : Nat → List SV → SS → Tr) (f : Nat) (as : List SV) (S : SS) : Tr :=
 match lookCb f C, as with
 | some b, .px id 0 :: rest => match getH S.h id, argVs S b.ps rest with
  | some (.bx t l), some xs => match conBok b S t l rest xs with
   | true => emit S.k (conX b.cn (.ag l :: xs) S.k) (conN b.cn (.ag l :: xs)) (.lf .nrm (conBS b S id (.ag l :: xs)))
   | false => inl f as S
  | _, _ => inl f as S
 | _, _ => inl f as S

section
variable {P : Program} {G : Glob} {M : List Md} {C : List Cb} {inl : Nat → List SV → SS → Tr}
theorem names_at {c : Cn} {xs : List SV} {k : Nat} {e : Env} {y : (pL c.rs).den} (hl : SV.ltL k xs = true) (h0 : Env.at (envX M e k (conX c xs k)) k = ⟨pL c.rs, y⟩) :
    ∀ (j : Nat) (d : Dyn), (upL c.rs y)[j]? = some d → Env.at (envX M e k (conX c xs k)) (baseN c.rs k + j) = d := by
  have hat := envX_at (M := M) (e := e) (conX_lt (c := c) hl)
  obtain ⟨f, jj, ps, rs, cl⟩ := c
  simp only at y h0 hat ⊢
  match rs, y, h0, hat with
  | [], y, h0, hat => intro j d hj; cases hj
  | [r], y, h0, hat =>
    intro j d hj
    cases j with
    | zero =>
      have hj : (⟨r, y⟩ : Dyn) = d := by simpa [upL] using hj
      rw [← hj]
      exact h0
    | succ j => simp [upL] at hj
  | r :: s :: l, y, h0, hat =>
    intro j d hj
    have hlen : j < (r :: s :: l).length := by
      have h1 := (List.getElem?_eq_some_iff.1 hj).1
      have := congrArg List.length (upL_r (rs := r :: s :: l) (x := y))
      rw [List.length_map] at this
      omega
    have h1 := hat (j + 1) (.pj (r :: s :: l) k j) (by
      show (Ex.ca jj xs :: pjs (r :: s :: l) k 0 (r :: s :: l))[j + 1]? = _
      rw [List.getElem?_cons_succ, pjs_at, if_pos hlen, Nat.zero_add])
    show Env.at _ (k + 1 + j) = d
    rw [show k + 1 + j = k + (j + 1) by omega, h1]
    simp only [Ex.den, h0, as_mk]
    exact getL_at hj
theorem resB_den {e : Env} {rs : List Rt} {k : Nat} {ds : List Dyn} (hr : ds.map Dyn.r = rs) (h : ∀ j d, ds[j]? = some d → Env.at e (k + j) = d) : (resB rs k).den G e = (match ds.map Dyn.av with | [v] => v | l => .tuple l) := by
 match rs, ds, hr, h with
 | [], ds, hr, h => cases map0 hr; rfl
 | [r], ds, hr, h =>
  obtain ⟨d, ds', rfl, h1, h2⟩ := map1 hr
  cases map0 h2
  subst h1
  exact svOf_den (x := d.v) (h 0 d rfl)
 | r :: s :: l, ds, hr, h =>
  have := svsOf_den (G := G) (i := k) hr h
  obtain ⟨d, ds', rfl, h1, h2⟩ := map1 hr
  obtain ⟨d2, ds2, rfl, h3, h4⟩ := map1 h2
  show AV.tuple (SV.denL G e (svsOf k (r :: s :: l))) = _
  rw [this]
  rfl
theorem headC_scal {ds : List Dyn} {c : TC} {x : tbl c} {r : List Dyn} (h : ds = ⟨.st c, x⟩ :: r) (hc : (Rt.st c).scal = true) : scalL (headC ds) = true := by
 subst h
 have := av_scal (d := ⟨.st c, x⟩) hc
 exact this
theorem conB_ok (hC : CbsOk P G M C) (hI : InlOk P G M inl) : InlOk P G M (conB C inl) := fun f as S e hb hl hf hs => by
  unfold conB at hs ⊢
  split at hs
  rotate_left
  · exact hI _ _ S e hb hl hf hs
  rename_i b id rest hc
  split at hs
  rotate_left
  · exact hI _ _ S e hb hl hf hs
  rename_i t l xs hg hx
  split at hs
  rotate_left
  · exact hI _ _ S e hb hl hf hs
  rename_i hk
  simp only [conBok, Bool.and_eq_true] at hk
  obtain ⟨⟨k1, k2, k3⟩, ⟨k4, k5⟩, k6, k7, k8⟩ := hk
  have k1 := Nat.eq_of_beq_eq_true k1
  subst k1
  obtain ⟨hm, hcf⟩ := lookCb_mem hc
  obtain ⟨g1, g2, g3, g4⟩ := hC b hm
  have hag0 : SV.lt S.k (.ag l) = true := k3
  have hltX : SV.ltL S.k (.ag l :: xs) = true := by simp only [SV.ltL, hag0, k5, Bool.and_self]
  obtain ⟨hn, _⟩ := emit_safe hs
  have hlX := conX_lt (c := b.cn) hltX
  have hag : Agr S.k e (envX M e S.k (conX b.cn (.ag l :: xs) S.k)) := envX_agr (Nat.le_refl _)
  have hne : b.cl = false → Nd.ok M (envX M e S.k (conX b.cn (.ag l :: xs) S.k)) (.ca b.j (.ag l :: xs)) := fun hcl => hn _ (by unfold conN; rw [show b.cn.cl = b.cl from rfl, hcl]; exact List.mem_singleton.2 rfl)
  obtain ⟨a1, a2, a3, a4⟩ := argVs_ok (G := G) (e := e) hx
  have hat := envX_at (M := M) (e := e) hlX 0 (.ca b.j (.ag l :: xs)) (by unfold conX; split <;> rfl)
  have hst := isSt_sub (G := G) (e := e) k2
  obtain ⟨bf, bj, bt, bc, bps, brs, bcl⟩ := b
  simp only [Cb.cn] at g1 g2 g3 g4 hcf hlX hag hne a1 a2 a3 a4 hat k2 k6 k7 k8 hst hx ⊢
  subst hcf
  simp only [Nat.add_zero, Ex.den] at hat
  simp only [Nd.ok] at hne
  clear hs hn
  generalize getL Md.d M bj = m at g1 g2 g3 g4 hat hne
  obtain ⟨mps, mrs, mpre, mm⟩ := m
  simp only at g1 g2 g3 g4 hat hne
  subst g1 g2
  rw [valL_agr hag hltX] at hat
  have hty : (valL e (.st bc :: bps) (.ag l :: xs)).map Dyn.r = .st bc :: bps := by simp only [valL, List.map_cons, a4]
  have hup := upL_pkL hty
  have hcall := g3 (pkL _ (valL e (.st bc :: bps) (.ag l :: xs))) (by
    cases bcl with
    | true => rw [g4 rfl]; trivial
    | false =>
      have := hne rfl
      rw [valL_agr hag hltX] at this
      exact this)
  simp only at hcall
  rw [hup] at hcall
  generalize hy : mm (pkL (.st bc :: bps) (valL e (.st bc :: bps) (.ag l :: xs))) = y at hcall hat
  have hna := names_at (M := M) (c := ⟨bf, bj, .st bc :: bps, .st bc :: brs, bcl⟩) hltX hat
  obtain ⟨d0, dr, hds, hd0, hdr⟩ := map1 (upL_r (rs := .st bc :: brs) (x := y))
  obtain ⟨r0, y0⟩ := d0
  simp only at hd0
  subst hd0
  simp only [hds] at hcall hna
  rw [a3 k4] at a1 a2
  have hcall := hcall.arg (.cons (Sub.refl _) a1)
  have hid : hget (denH G e S.h) id = some (.box bt (SV.denL G e l)) := by rw [denH_get, hg]; rfl
  have hfin := ACalls.frameB (R := fun r cs' => r = resT (⟨.st bc, y0⟩ :: dr) ∧ cs' = headC (⟨.st bc, y0⟩ :: dr)) (σ := denH G e S.h) (n := S.n) hcall a2 (pureL_map _) (fun r cs' ⟨q1, q2⟩ => ⟨by
      rw [q1]
      have hsc : scalL (dr.map Dyn.av) = true := avL_scal fun d hd => by
        have : d.r ∈ brs := by rw [← hdr]; exact List.mem_map_of_mem hd
        exact List.all_eq_true.1 k7 d.r this
      unfold resT
      simp only [List.tail_cons]
      split
      · rename_i v hv
        rw [hv] at hsc
        simpa [scalL] using hsc
      · exact hsc, by rw [q2]; exact headC_scal rfl k6⟩) hid hst
  have h0 := hna 0 ⟨.st bc, y0⟩ rfl
  rw [Nat.add_zero] at h0
  have hlen : baseN (.st bc :: brs) S.k + 1 + brs.length ≤ S.k + (conX ⟨bf, bj, .st bc :: bps, .st bc :: brs, bcl⟩ (.ag l :: xs) S.k).length := by
    cases brs with
    | nil => simp [baseN, conX]
    | cons r q => simp only [baseN, conX, List.length_cons, pjs_len]; omega
  have hlt0 : baseN (.st bc :: brs) S.k < S.k + (conX ⟨bf, bj, .st bc :: bps, .st bc :: brs, bcl⟩ (.ag l :: xs) S.k).length := by omega
  refine hfin.res fun r τ ⟨cs', h1, h2, h3⟩ => ⟨_, _, by rw [emit_run]; rfl, ?_, ?_, ?_, ?_, hag, Nat.le_add_right _ _⟩
  · rw [h2]
    have := resB_den (G := G) (k := baseN (.st bc :: brs) S.k + 1) hdr fun j d hj => by
      have := hna (j + 1) d (by simpa using hj)
      rw [← this]
      congr 1
      omega
    show _ = SV.den G _ (SS.at (conBS _ S id _) 0)
    unfold conBS SS.at
    simp only [Tri.get_put, if_true]
    exact this.symm
  · rw [h1, h3]
    show _ = denH G _ (setH S.h id _)
    rw [denH_set, denH_agr hag hb.h]
    simp only [SO.den, Cb.cn]
    rw [fs_den, h0, as_mk]
    rfl
  · refine ⟨fun i x hi => ?_, ltH_set (o := .bx bt (fsOf bc (baseN (.st bc :: brs) S.k) 0 (fT bc))) (fsOf_lt hlt0) (ltH_mono (Nat.le_add_right _ _) hb.h), ltG_mono (Nat.le_add_right _ _) hb.g⟩
    simp only [conBS, Tri.get_put] at hi
    split at hi
    · cases hi
      show (resB brs (baseN (.st bc :: brs) S.k + 1)).lt (S.k + _) = true
      unfold resB
      split
      · have hlt1 : baseN (.st bc :: [_]) S.k + 1 < S.k + (conX ⟨bf, bj, .st bc :: bps, .st bc :: [_], bcl⟩ (.ag l :: xs) S.k).length := hlen
        exact svOf_lt hlt1
      · simp only [SV.lt]
        exact svsOf_lt hlen
    · simp [Tri.get] at hi
  · exact fok_keep hag hb.g hf
end
end Go.Av
