/- TD, part P: states are joined; what follows a part. Conditions: none. -/
import Derived.Test.YtmkpmgfieagphaaGreatDoorPTDo
namespace Go.Av
open Go

def allEq (v : SV) : List SV → Bool
 | [] => true
 | x :: r => eqS x v && allEq v r
def typeOf : List SV → Option Rt
 | [] => none
 | x :: r => match x.rt with
  | some t => some t
  | none => typeOf r
def allIs (r : Rt) : List SV → Bool
 | [] => true
 | x :: l => x.is1 r && allIs r l
def allAg (n : Nat) : List SV → Bool
 | [] => true
 | .ag l :: r => Nat.beq l.length n && allAg n r
 | _ :: _ => false
def allTp (n : Nat) : List SV → Bool
 | [] => true
 | .tp l :: r => Nat.beq l.length n && allTp n r
 | _ :: _ => false
def SV.parts : SV → List SV
 | .tp l => l
 | .ag l => l
 | x => [x]
def headsL : List (List SV) → List SV
 | [] => []
 | l :: r => getL .top l 0 :: headsL r
def tailsL : List (List SV) → List (List SV)
 | [] => []
 | l :: r => l.tail :: tailsL r
def gpOf (r : Option (Nat × Nat)) : List SV → Option (Nat × Nat)
 | [] => r
 | .px i o :: l => match r with
  | none => gpOf (some (i, o)) l
  | some (j, q) => match Nat.beq i j && Nat.beq o q with
   | true => gpOf r l
   | false => none
 | .gp _ (some i) o :: l => match r with
  | none => gpOf (some (i, o)) l
  | some (j, q) => match Nat.beq i j && Nat.beq o q with
   | true => gpOf r l
   | false => none
 | .cs (.pointer none) :: l => gpOf r l
 | _ :: _ => none
mutual
def mvV (k0 : Nat) (p : Pl) (rest : List SV) (k : Nat) : SV → SV × Phs
 | .ag l => match allAg l.length rest with
  | true => match mvL k0 p 0 (rest.map SV.cells) k l with
   | (ws, ps) => (.ag ws, ps)
  | false => (.top, [])
 | .tp l => match allTp l.length rest with
  | true => match mvL k0 p 0 (rest.map SV.parts) k l with
   | (ws, ps) => (.tp ws, ps)
  | false => (.top, [])
 | v => match allEq v rest && v.lt k0 with
  | true => (v, [])
  | false => match typeOf (v :: rest) with
   | some r => match allIs r (v :: rest) with
    | true => (.va r k, [(k, r, p)])
    | false => (.top, [])
   | none => match gpOf none (v :: rest) with
    | some (id, off) => (.gp (.va .bool k) (some id) off, [(k, .bool, .isp p)])
    | none => (.top, [])
def mvL (k0 : Nat) (p : Pl) : Nat → List (List SV) → Nat → List SV → List SV × Phs
 | _, _, _, [] => ([], [])
 | i, rs, k, v :: l => match mvV k0 (plusL p i) (headsL rs) k v with
  | (w, ps) => match mvL k0 p (i + 1) (tailsL rs) (k + ps.length) l with
   | (ws, qs) => (w :: ws, ps ++ qs)
end
def isTop : SV → Bool
 | .top => true
 | _ => false
def slotsOf (i : Nat) : List SS → List SV
 | [] => []
 | S :: r => S.at i :: slotsOf i r
def mvS (k0 : Nat) (s : SS) (ss : List SS) : Nat → Nat → Nat → List (Nat × SV) × Phs
 | 0, _, _ => ([], [])
 | n + 1, i, k => match isTop (s.at i) with
  | true => mvS k0 s ss n (i + 1) k
  | false => match mvV k0 (.slot i []) (slotsOf i ss) k (s.at i) with
   | (w, ps) => match mvS k0 s ss n (i + 1) (k + ps.length) with
    | (l, qs) => match isTop w with
     | true => (l, ps ++ qs)
     | false => ((i, w) :: l, ps ++ qs)
def cellsOf (id : Nat) : List SS → Option (List (List SV))
 | [] => some []
 | S :: r => match getH S.h id, cellsOf id r with
  | some (.bx _ l), some m => some (l :: m)
  | _, _ => none
def rowsOf (id : Nat) (c : TC) : List SS → Option (List SV)
 | [] => some []
 | S :: r => match getH S.h id, rowsOf id c r with
  | some (.rw _ d x), some m => match decide (d = c) with
   | true => some (x :: m)
   | false => none
  | _, _ => none
def itsOf (id : Nat) (x : SV) : List SS → Option (List SV)
 | [] => some []
 | S :: r => match getH S.h id, itsOf id x r with
  | some (.it y p), some m => match eqS y x with
   | true => some (p :: m)
   | false => none
  | _, _ => none
def mvB (k0 id : Nat) : Nat → List (List SV) → Nat → List SV → List SV × Phs
 | _, _, _, [] => ([], [])
 | j, rs, k, v :: l => match mvV k0 (.box id j []) (headsL rs) k v with
  | (w, ps) => match mvB k0 id (j + 1) (tailsL rs) (k + ps.length) l with
   | (ws, qs) => (w :: ws, ps ++ qs)
def mvH (k0 : Nat) (ss : List SS) : List (Nat × SO) → Nat → List (Nat × SO) × Phs
 | [], _ => ([], [])
 | (id, .bx t l) :: r, k => match cellsOf id ss with
  | some rs => match mvB k0 id 0 rs k l with
   | (ws, ps) => match mvH k0 ss r (k + ps.length) with
    | (h, qs) => ((id, .bx t ws) :: h, ps ++ qs)
  | none => mvH k0 ss r k
 | (id, .rw t c x) :: r, k => match rowsOf id c ss with
  | some xs => match allEq x xs && x.lt k0 with
   | true => match mvH k0 ss r k with
    | (h, qs) => ((id, .rw t c x) :: h, qs)
   | false => match allIs (.li c) (x :: xs) with
    | true => match mvH k0 ss r (k + 1) with
     | (h, qs) => ((id, .rw t c (.va (.li c) k)) :: h, (k, .li c, .row id) :: qs)
    | false => mvH k0 ss r k
  | none => mvH k0 ss r k
 | (id, .it x p) :: r, k => match itsOf id x ss with
  | some xs => match allEq p xs && p.lt k0 with
   | true => match mvH k0 ss r k with
    | (h, qs) => ((id, .it x p) :: h, qs)
   | false => match allIs (.int .i64) (p :: xs) with
    | true => match mvH k0 ss r (k + 1) with
     | (h, qs) => ((id, .it x (.va (.int .i64) k)) :: h, (k, .int .i64, .row id) :: qs)
    | false => mvH k0 ss r k
  | none => mvH k0 ss r k
def maxN (n : Nat) : List SS → Nat
 | [] => n
 | S :: r => Nat.max S.n (maxN n r)
def mrg (N k0 : Nat) (s : SS) (ss : List SS) : Jn :=
 match mvS k0 s ss N 0 k0 with
 | (l, ps) => match mvH k0 ss s.h (k0 + ps.length) with
  | (h, qs) => ⟨l, h, maxN s.n ss, ps ++ qs⟩
def seqJ (S0 : SS) (t : Tr) (J : Jn) (ss : List SS) (f : SS → Tr) : Tr :=
 match phOk S0.k J.ps && ((ltSl (S0.k + J.ps.length) J.l && ltH (S0.k + J.ps.length) J.h) && leafsOk J S0.k ss) with
 | true => .jn (t.lvl + 1) (t.rel (markE (t.lvl + 1))) J.ps (f (J.S S0.k S0.g))
 | false => .bad 8
def isNj : Fc → Bool
 | .bo (.cs (.bool true)) true => true
 | _ => false
def hasNj : List Fc → Bool
 | [] => false
 | c :: r => isNj c || hasNj r
def delNj : List Fc → List Fc
 | [] => []
 | c :: r => match isNj c with
  | true => delNj r
  | false => c :: delNj r
def SS.nj (S : SS) : SS := { S with g := .bo (.cs (.bool true)) true :: S.g }
def SS.unNj (S : SS) : SS := { S with g := delNj S.g }
def allNj : List SS → Bool
 | [] => true
 | S :: r => hasNj S.g && allNj r
def seqT (N : Nat) (S0 : SS) (t : Tr) (f : SS → Tr) : Tr :=
 match t.nrms with
 | [] => t
 | [_] => t.graft f none
 | s :: ss => match allNj (s :: ss) with
  | true => t.graft (fun S => f S.unNj) none
  | false => seqJ S0 t (mrg N S0.k s ss) (s :: ss) f
def gdL : List (SV × Bool) → SV → SV
 | [], v => v
 | (g, b) :: r, v => .gd g b (gdL r v)
def gdAt (d : Nat) (gs : List (SV × Bool)) : List (Nat × SV) → List (Nat × SV)
 | [] => []
 | (i, x) :: r => match Nat.beq i d with
  | true => (i, gdL gs x) :: gdAt d gs r
  | false => (i, x) :: gdAt d gs r
def putT0 (d : Nat) (v : SV) : List SS → List SS
 | [] => []
 | S :: r => match isT0 (S.at d) with
  | true => S.put (some d) v :: putT0 d v r
  | false => S :: putT0 d v r
def vT0 (d : Nat) : List SS → SV
 | [] => .top
 | S :: r => match isT0 (S.at d) with
  | true => vT0 d r
  | false => S.at d
def gJn (N k0 d : Nat) (gs : List (SV × Bool)) (ss : List SS) : Jn :=
 match putT0 d (vT0 d ss) ss with
 | s' :: ss' => match mrg N k0 s' ss' with
  | J => ⟨gdAt d gs J.l, J.h, J.n, J.ps⟩
 | [] => ⟨[], [], 0, []⟩
def seqG (N : Nat) (S0 : SS) (dst : Option Nat) (gs : List (SV × Bool)) (t : Tr) (f : SS → Tr) : Tr :=
 match dst, gs, t.nrms with
 | some d, _ :: _, s :: s2 :: ss => seqJ S0 t (gJn N S0.k d gs (s :: s2 :: ss)) (s :: s2 :: ss) f
 | _, _, _ => seqT N S0 t f

section
variable {M : List Md} {G : Glob} {N B : Nat}
def SS.fok (S : SS) (e : Env) : Prop := ∀ c ∈ S.g, c.ok e
theorem leafsOk_mem {J : Jn} {k0 : Nat} : ∀ {ss : List SS}, leafsOk J k0 ss = true → ∀ S ∈ ss, leafOk J k0 S = true
 | _ :: r, h, S, hm => by
  simp only [leafsOk, Bool.and_eq_true] at h
  rcases List.mem_cons.1 hm with rfl | q
  ·exact h.1
  ·exact leafsOk_mem h.2 S q
theorem ltSl_mem {k : Nat} : ∀ {l : List (Nat × SV)}, ltSl k l = true → ∀ {i : Nat} {x : SV}, (i, x) ∈ l → x.lt k = true
 | (j, y) :: r, h, i, x, hm => by
  simp only [ltSl, Bool.and_eq_true] at h
  rcases List.mem_cons.1 hm with q | q
  ·cases q; exact h.1
  ·exact ltSl_mem h.2 q
theorem seqJ_ok {S0 : SS} {t : Tr} {J : Jn} {ss : List SS} {f : SS → Tr} {e : Env} (hn : t.nrms = ss) (hb : S0.Bd) (hf : S0.fok e) (hs : (seqJ S0 t J ss f).safe M e) :
    t.safe M e ∧ (∀ x S1 e1, run M t e = some (x, S1, e1) → x ≠ .nrm → (∀ n, x.isJ n = false) → run M (seqJ S0 t J ss f) e = some (x, S1, e1)) ∧
    ∀ S1 e1, run M t e = some (.nrm, S1, e1) → S1.Bd → S1.fok e1 → Agr S0.k e e1 → S0.k ≤ S1.k →
      ∃ S2 e2, Le (S1.den G N B e1) (S2.den G N B e2) ∧ S2.Bd ∧ S2.fok e2 ∧ Agr S0.k e e2 ∧ S0.k ≤ S2.k ∧ (f S2).safe M e2 ∧ run M (seqJ S0 t J ss f) e = run M (f S2) e2 := by
  unfold seqJ at hs ⊢
  split at hs
  · rename_i hc
    simp only [Bool.and_eq_true] at hc
    obtain ⟨c1, ⟨c2, c3⟩, c4⟩ := hc
    have hok : t.okR (markE (t.lvl + 1)) := okR_mark (Nat.lt_succ_self _)
    have hrr := run_rel (M := M) hok e
    refine ⟨(safe_rel hok).1 hs.1, fun x S1 e1 h hx hj => ?_, fun S1 e1 h h1 h2 h3 h4 => ?_⟩
    · rw [h] at hrr
      have hrr : run M _ e = some (markE (t.lvl + 1) x, S1, e1) := hrr
      have hm : markE (t.lvl + 1) x = x := by
        cases x with
        | nrm => exact absurd rfl hx
        | _ => rfl
      rw [hm] at hrr
      unfold run
      rw [run_jn_f hrr (hj _)]
    · rw [h] at hrr
      have hrr : run M _ e = some (.jm (t.lvl + 1), S1, e1) := hrr
      have hj : Ek.isJ (t.lvl + 1) (.jm (t.lvl + 1)) = true := Nat.beq_refl _
      have hsk := safe_jn_t hs hrr hj
      have hle := leaf_le (G := G) (N := N) (B := B) c1 h2 (leafsOk_mem c4 S1 (by have := nrms_mem h; rw [hn] at this; exact this)) (g := S0.g) h3
      have hag : Agr S0.k e (setP e (fun r p => ⟨r, (p.sv S1).get e1 r⟩) J.ps) := fun i hi => setP_keep c1 i hi
      refine ⟨J.S S0.k S0.g, _, hle, ⟨fun i x hx => ltSl_mem c2 (triOf_get hx), c3, ltG_mono (Nat.le_add_right _ _) hb.g⟩, fok_keep hag hb.g hf, hag, Nat.le_add_right _ _, hsk, ?_⟩
      show (Tr.jn _ _ _ _).fold M e _ none = _
      rw [run_jn_t hrr hj]
      rfl
  · exact hs.elim
theorem delNj_mem : ∀ {g : List Fc} {c : Fc}, c ∈ delNj g → c ∈ g
 | [], _, h => h
 | d :: r, c, h => by
  unfold delNj at h
  split at h
  ·exact List.mem_cons_of_mem _ (delNj_mem h)
  ·rcases List.mem_cons.1 h with rfl | h
   ·exact List.mem_cons_self ..
   ·exact List.mem_cons_of_mem _ (delNj_mem h)
theorem delNj_lt {k : Nat} : ∀ {g : List Fc}, ltG k g = true → ltG k (delNj g) = true
 | [], _ => rfl
 | d :: r, h => by
  simp only [ltG, Bool.and_eq_true] at h
  unfold delNj
  split
  ·exact delNj_lt h.2
  ·simp only [ltG, Bool.and_eq_true]; exact ⟨h.1, delNj_lt h.2⟩
theorem unNj_bd {S : SS} (h : S.Bd) : S.unNj.Bd := ⟨h.l, h.h, delNj_lt h.g⟩
theorem unNj_fok {S : SS} {e : Env} (h : S.fok e) : S.unNj.fok e := fun c hc => h c (delNj_mem hc)
theorem nj_bd {S : SS} (h : S.Bd) : S.nj.Bd := ⟨h.l, h.h, by show (true && ltG S.k S.g) = true; rw [Bool.true_and]; exact h.g⟩
theorem nj_fok {S : SS} {e : Env} (h : S.fok e) : S.nj.fok e := fun c hc => by
 rcases List.mem_cons.1 hc with rfl | hc
 ·rfl
 ·exact h c hc
theorem seqT_ok {S0 : SS} {t : Tr} {f : SS → Tr} {e : Env} (hb : S0.Bd) (hf : S0.fok e) (hs : (seqT N S0 t f).safe M e) :
    t.safe M e ∧ (∀ x S1 e1, run M t e = some (x, S1, e1) → x ≠ .nrm → (∀ n, x.isJ n = false) → run M (seqT N S0 t f) e = some (x, S1, e1)) ∧
    ∀ S1 e1, run M t e = some (.nrm, S1, e1) → S1.Bd → S1.fok e1 → Agr S0.k e e1 → S0.k ≤ S1.k →
      ∃ S2 e2, Le (S1.den G N B e1) (S2.den G N B e2) ∧ S2.Bd ∧ S2.fok e2 ∧ Agr S0.k e e2 ∧ S0.k ≤ S2.k ∧ (f S2).safe M e2 ∧ run M (seqT N S0 t f) e = run M (f S2) e2 := by
  have hs' := hs
  unfold seqT at hs
  split at hs
  · rename_i hn
    have hT : seqT N S0 t f = t := by unfold seqT; rw [hn]
    rw [hT]
    refine ⟨hs, fun x S1 e1 h _ _ => h, fun S1 e1 h => ?_⟩
    have := nrms_mem h
    rw [hn] at this
    cases this
  · rename_i hn
    have hT : seqT N S0 t f = t.graft f none := by unfold seqT; rw [hn]
    rw [hT]
    obtain ⟨g1, g2, g3⟩ := graft_ok t none hs
    refine ⟨g1, fun x S1 e1 h hx _ => by rw [g2, h, gft_ne hx], fun S1 e1 h h1 h2 h3 h4 => ?_⟩
    exact ⟨S1, e1, Le.refl _, h1, h2, h3, h4, (g3 S1 e1 h).1, by rw [g2, h]; rfl⟩
  · rename_i s ss hne hnr
    have hT : seqT N S0 t f = match allNj (s :: ss) with
        | true => t.graft (fun S => f S.unNj) none
        | false => seqJ S0 t (mrg N S0.k s ss) (s :: ss) f := by
      unfold seqT
      rw [hnr]
      cases ss with
      | nil => exact absurd rfl hne
      | cons q r => rfl
    rw [hT]
    split at hs
    · obtain ⟨g1, g2, g3⟩ := graft_ok t none hs
      refine ⟨g1, fun x S1 e1 h hx _ => by rw [g2, h, gft_ne hx], fun S1 e1 h h1 h2 h3 h4 => ?_⟩
      exact ⟨S1.unNj, e1, Le.refl _, unNj_bd h1, unNj_fok h2, h3, h4, (g3 S1 e1 h).1, by rw [g2, h]; rfl⟩
    · exact seqJ_ok hnr hb hf hs
theorem seqG_ok {S0 : SS} {dst : Option Nat} {gs : List (SV × Bool)} {t : Tr} {f : SS → Tr} {e : Env} (hb : S0.Bd) (hf : S0.fok e) (hs : (seqG N S0 dst gs t f).safe M e) :
    t.safe M e ∧ (∀ x S1 e1, run M t e = some (x, S1, e1) → x ≠ .nrm → (∀ n, x.isJ n = false) → run M (seqG N S0 dst gs t f) e = some (x, S1, e1)) ∧
    ∀ S1 e1, run M t e = some (.nrm, S1, e1) → S1.Bd → S1.fok e1 → Agr S0.k e e1 → S0.k ≤ S1.k →
      ∃ S2 e2, Le (S1.den G N B e1) (S2.den G N B e2) ∧ S2.Bd ∧ S2.fok e2 ∧ Agr S0.k e e2 ∧ S0.k ≤ S2.k ∧ (f S2).safe M e2 ∧ run M (seqG N S0 dst gs t f) e = run M (f S2) e2 := by
  unfold seqG at hs ⊢
  split at hs
  · rename_i hn
    exact seqJ_ok hn hb hf hs
  · exact seqT_ok hb hf hs
end
end Go.Av
namespace Go.Av
open Go

def fcOf (k : Nat) : Ex → List Fc
 | .f1 .lnS x => [.d1 k .lnS x]
 | .f1 (.lnL c) x => [.d1 k (.lnL c) x]
 | .f1 .nt x => [.d1 k .nt x]
 | .f2 (.ar .add .i64 .i64) x y => [.d2 k (.ar .add .i64 .i64) x y]
 | .f2 (.cm .lss .i64) x y => [.d2 k (.cm .lss .i64) x y]
 | _ => []
def addF (k : Nat) : List Ex → List Fc → List Fc
 | [], g => g
 | x :: r, g => addF (k + 1) r (fcOf k x ++ g)
def SS.adv (S : SS) (k : Nat) (xs : List Ex) : SS := { S with k := k + xs.length, g := addF k xs S.g }
inductive Gd where
 | yes
 | no
 | on (gs : List (SV × Bool))
 | bad
def gdC (l : List Fc) (b : Bool) : SV → Gd
 | .cs (.bool c) => match decide (c = b) with
  | true => .yes
  | false => .no
 | .tp _ => .no
 | .gd h c v => match h.rt with
  | some .bool => match gdC l b v with
   | .yes => .on [(h, c)]
   | .no => .no
   | .on gs => .on ((h, c) :: gs)
   | .bad => .bad
  | _ => .bad
 | g => match g.rt, knownB g l with
  | some .bool, some c => match decide (c = b) with
   | true => .yes
   | false => .no
  | some .bool, none => .on [(g, b)]
  | _, _ => .bad
def guardOf (N : Nat) (ops : Array Oper) (S : SS) (o : Oper) : Gd :=
 match o.guard with
 | none => .yes
 | some (j, b) => match gslot ops j with
  | some d => match Nat.blt d N with
   | true => gdC S.g b ((S.at d).res S.g)
   | false => .bad
  | none => .bad
def boL : List (SV × Bool) → List Fc → List Fc
 | [], l => l
 | (g, b) :: r, l => .bo g b :: boL r l
def giL : List (SV × Bool) → Nd → Nd
 | [], n => n
 | (g, b) :: r, n => .gi g b (giL r n)
def ltGs (k : Nat) : List (SV × Bool) → Bool
 | [] => true
 | (g, _) :: r => g.lt k && ltGs k r
def allG (e : Env) : List (SV × Bool) → Bool
 | [] => true
 | (g, b) :: r => (g.get1 e .bool == b) && allG e r
def opRange (P : Program) (B : Nat) (S : SS) (t : TypeId) (x : SV) : Option Ws :=
 match x.rt, isStr P t && Nat.ble B S.n with
 | some .str, true => some ⟨[], [], none, (S.n, .it x (.cs (.int .i64 0))) :: S.h, S.n + 1, .rf S.n⟩
 | _, _ => none
def sop (P : Program) (N B : Nat) (T : List (Nat × TC)) (S : SS) (o : Oper) : Option Ws :=
 match o.op with
 | .alloc t => opAlloc P B S t
 | .box t x => opBox B S t (S.opv N x)
 | .store t p x => opStore P S t (S.opv N p) (S.opv N x)
 | .buildSlice t len ps => match opLitR P N B T S t len ps.toList with
  | some r => some r
  | none => match opLit P N T S t len ps.toList with
   | some r => some r
   | none => opLitB P N B S t len ps.toList
 | .makeSlice t x y => opMake P B T S t (S.opv N x) (S.opv N y)
 | .range t x => opRange P B S t (S.opv N x)
 | .call c => match c.callee, c.args.toList, c.argTypes.toList with
  | .builtin .append, [x, y], [t, t'] => match Nat.beq t t' with
   | true => opApp P B S t (S.opv N x) (S.opv N y)
   | false => opAppS P B S t t' (S.opv N x) (S.opv N y)
  | _, _, _ => none
 | _ => none
structure Fs where
 xs : List Ex
 g : SV
 h : List (Nat × SO)
 v : SV
 v' : SV
def opNext (S : SS) (x : SV) : Option Fs :=
  match x with
  | .rf id => match getH S.h id with
    | some (.it s p) => match s.rt, p.rt with
      | some .str, some (.int .i64) => some ⟨[.f2 .rnB s p, .f2 .rnP s p, .f2 .rnV s p, .f2 .rnN s p], .va .bool S.k, setH S.h id (.it s (.va (.int .i64) (S.k + 3))),
          .tp [.cs (.bool true), .va (.int .i64) (S.k + 1), .va (.int .i32) (S.k + 2)], .tp [.cs (.bool false)]⟩
      | _, _ => none
    | _ => none
  | _ => none
def fop (N : Nat) (S : SS) (o : Oper) : Option Fs :=
 match o.op with
 | .next x true => opNext S (S.opv N x)
 | _ => none
def Fs.ok (q : Fs) (S : SS) : Bool := (ltX S.k q.xs && q.g.lt (S.k + q.xs.length)) && (ltH (S.k + q.xs.length) q.h && (q.v.lt (S.k + q.xs.length) && q.v'.lt (S.k + q.xs.length)))
def Fs.st (q : Fs) (S : SS) (dst : Option Nat) : SS := (SS.put { S.adv S.k q.xs with h := q.h, g := .bo q.g true :: (S.adv S.k q.xs).g } dst q.v).nj
def Fs.sf (q : Fs) (S : SS) (dst : Option Nat) : SS := (SS.put { S.adv S.k q.xs with g := .bo q.g false :: (S.adv S.k q.xs).g } dst q.v').nj
def SO.kind : SO → SO → Bool
 | .bx _ _, .bx _ _ => true
 | .rw _ c _, .rw _ d _ => Nat.beq (nT c) (nT d)
 | .it _ _, .it _ _ => true
 | _, _ => false
def kindsOk (n : Nat) (h0 : List (Nat × SO)) : List (Nat × SO) → Bool
 | [] => true
 | (id, o) :: r => (match Nat.blt id n with
  | true => match getH h0 id with
   | some o' => SO.kind o' o
   | none => false
  | false => true) && kindsOk n h0 r
mutual
def SV.bel (n : Nat) : SV → Bool
 | .ag l => SV.belL n l
 | .tp l => SV.belL n l
 | .px k _ => Nat.blt k n
 | .pe k _ _ => Nat.blt k n
 | .pv k _ _ _ => Nat.blt k n
 | .sl k => Nat.blt k n
 | .bs k _ => Nat.blt k n
 | .gp _ (some k) _ => Nat.blt k n
 | .fn _ a b => SV.belL n a && SV.belL n b
 | .rf k => Nat.blt k n
 | .gd _ _ x => SV.bel n x
 | _ => true
def SV.belL (n : Nat) : List SV → Bool
 | [] => true
 | x :: r => SV.bel n x && SV.belL n r
end
def belHS (n : Nat) : List (Nat × SO) → Bool
 | [] => true
 | (id, .bx _ l) :: r => Nat.blt id n && (SV.belL n l && belHS n r)
 | (id, .rw _ _ _) :: r => Nat.blt id n && belHS n r
 | (id, .it _ _) :: r => Nat.blt id n && belHS n r
def SS.back (S : SS) (dst : Option Nat) (C : SS) : SS := (⟨S.l, C.h, C.n, C.k, C.g⟩ : SS).put dst (C.at 0)
def backOk (S C : SS) : Bool := (SV.bel C.n (C.at 0) && belHS C.n C.h) && (Nat.ble S.n C.n && kindsOk S.n S.h C.h)
def backT (S : SS) (dst : Option Nat) (C : SS) : Tr :=
 match backOk S C with
 | true => .lf .nrm (S.back dst C)
 | false => .bad 34
def renPair (C : SS) : List SV → List SV → Nat → Option (Nat × Nat × Nat)
 | .sl k :: r, .sl m :: r', off => match Nat.beq k m, getH C.h k, getH C.h m with
  | false, none, some (.rw _ _ _) => some (off, k, m)
  | _, _, _ => renPair C r r' (off + 1)
 | _ :: r, _ :: r', off => renPair C r r' (off + 1)
 | _, _, _ => none
def renFind (C : SS) : List (Nat × SO) → Option (Nat × Nat × Nat × Nat)
 | [] => none
 | (id, .bx _ l0) :: r => match getH C.h id with
  | some (.bx _ l) => match renPair C l0 l 0 with
   | some (off, k, m) => some (id, off, k, m)
   | none => renFind C r
  | _ => renFind C r
 | _ :: r => renFind C r
def isSl (m : Nat) : Option SV → Bool
 | some (.sl j) => Nat.beq j m
 | _ => false
def renX (B id off k m : Nat) (C : SS) : SS :=
 match getH C.h id, getH C.h m with
 | some (.bx t l), some (.rw te c x) => match isSl m (l[off]?) && ((Nat.ble B k && Nat.blt k C.n) && !(Nat.beq id k)) with
  | true => ⟨(C.l.map (SV.kill m)).map (SV.kill k), setH ((k, .rw te c x) :: killHS k (killHS m C.h)) id (.bx t ((SV.killL k (SV.killL m l)).set off (.sl k))), C.n, C.k, C.g⟩
  | false => C
 | _, _ => C
def renS (B : Nat) (S C : SS) : SS :=
 match renFind C S.h with
 | some (id, off, k, m) => renX B id off k m C
 | none => C
def calleeOf (N : Nat) (S : SS) (o : Oper) : Option (Nat × List SV) :=
 match o.op with
 | .call c => match c.callee with
  | .value x => match S.opv N x with
   | .fn (.func f) p q => some (f, p ++ c.args.toList.map (S.opv N) ++ q)
   | _ => none
  | _ => none
 | _ => none
def cseG (f : F1) (x : SV) : List Fc → Option Nat
 | [] => none
 | .d1 j g y :: r => match decide (g = f) && eqS y x with
  | true => some j
  | false => cseG f x r
 | _ :: r => cseG f x r
def cseOf (S : SS) (r : Rs) : Option (Rt × Nat) :=
 match r.xs, r.ns, r.v with
 | [.f1 f x], [], .va t k => match Nat.beq k S.k with
  | true => match cseG f x S.g with
   | some j => match Nat.blt j S.k with
    | true => some (t, j)
    | false => none
   | none => none
  | false => none
 | _, _, _ => none
def foldF (f : F2) (a b : Int) : Option SV :=
 match f with
 | .ar .add .i64 .i64 => some (.cs (.int .i64 (arI .add .i64 a b)))
 | .ar .sub .i64 .i64 => some (.cs (.int .i64 (arI .sub .i64 a b)))
 | .ar .mul .i64 .i64 => some (.cs (.int .i64 (arI .mul .i64 a b)))
 | .cm op .i64 => some (.cs (.bool (cmI op a b)))
 | _ => none
def foldOf (S : SS) (r : Rs) : Option SV :=
 match r.xs, r.ns, r.v with
 | [.f2 f (.cs (.int .i64 a)) (.cs (.int .i64 b))], [], .va t k => match Nat.beq k S.k && eqR t f.c with
  | true => foldF f a b
  | false => none
 | _, _, _ => none
def opN (o : Oper) : Nat :=
 match o.op with
 | .pick _ _ _ => 1
 | .alloc _ => 2
 | .box _ _ => 3
 | .build _ _ => 4
 | .buildSlice _ _ _ => 5
 | .insert _ _ _ _ => 6
 | .load _ _ => 7
 | .store _ _ _ => 8
 | .nilCheck _ => 9
 | .binOp _ _ _ _ _ => 10
 | .unOp _ _ _ => 11
 | .convert _ _ _ => 12
 | .makeInterface _ _ => 13
 | .makeFunc _ _ _ => 14
 | .makeMap _ _ => 15
 | .makeSlice _ _ _ => 16
 | .slice _ _ _ _ _ => 17
 | .fieldAddr _ _ _ => 18
 | .field _ _ _ => 19
 | .indexAddr _ _ _ => 20
 | .index _ _ _ => 21
 | .lookup _ _ _ _ => 22
 | .mapUpdate _ _ _ _ => 23
 | .call c => match c.callee with
  | .builtin .append => 30
  | .builtin .len => 31
  | .builtin .copy => 32
  | .builtin _ => 33
  | .value _ => 34
  | _ => 35
 | .range _ _ => 40
 | .next _ _ => 41
 | .extract _ _ => 42
 | _ => 50
def exec (P : Program) (N B : Nat) (T : List (Nat × TC)) (inl : Nat → List SV → SS → Tr) (o : Oper) (S : SS) (k : SS → Tr) : Tr :=
 match vop P N S o with
 | some r => match ltX S.k r.xs && r.v.lt (S.k + r.xs.length) with
  | true => match cseOf S r with
   | some (t, j) => k (S.put o.dst (.va t j))
   | none => match foldOf S r with
    | some v => k (S.put o.dst v)
    | none => emit S.k r.xs r.ns (k ((S.adv S.k r.xs).put o.dst r.v))
  | false => .bad 30
 | none => match sop P N B T S o with
  | some r => match ltX S.k r.xs && (r.v.lt (S.k + r.xs.length) && ltH (S.k + r.xs.length) r.h) with
   | true => emit S.k r.xs r.ns (k ((r.st S o.dst).adv S.k r.xs))
   | false => .bad 31
  | none => match fop N S o with
   | some q => match q.ok S with
    | true => emit S.k q.xs [] (.it q.g (k (q.st S o.dst)) (k (q.sf S o.dst)))
    | false => .bad 33
   | none => match calleeOf N S o with
    | some (f, as) => match callable P f with
     | true => seqT N S ((inl f as S).graft (backT S o.dst) none) fun C => k (renS B S C)
     | false => .bad 32
    | none => .bad (100 + opN o)
def forkT (g : SV) (b : Bool) (x y : Tr) : Tr :=
 match b with
 | true => .it g x y
 | false => .it g y x
def forkL (y : List Fc → Tr) : List (SV × Bool) → Tr → List Fc → Tr
 | [], x, _ => x
 | (g, b) :: r, x, l => forkT g b (forkL y r x (.bo g b :: l)) (y (.bo g (!b) :: l))
def skipT (S : SS) (dst : Option Nat) (l : List Fc) : Tr := .lf .nrm (SS.put { S with g := l } dst (.tp []))
def rgn (P : Program) (N B : Nat) (T : List (Nat × TC)) (inl : Nat → List SV → SS → Tr) (ops : Array Oper) : List Oper → SS → Tr
 | [], S => .lf .nrm S
 | o :: r, S => match guardOf N ops S o with
  | .yes => exec P N B T inl o S (rgn P N B T inl ops r)
  | .no => rgn P N B T inl ops r (S.put o.dst (.tp []))
  | .on gs => match ltGs S.k gs with
   | true => match vop P N { S with g := boL gs S.g } o with
    | some q => match ltX S.k q.xs && q.v.lt (S.k + q.xs.length) with
     | true => emit S.k q.xs (q.ns.map (giL gs)) (rgn P N B T inl ops r ((S.adv S.k q.xs).put o.dst (gdL gs q.v)))
     | false => .bad 35
    | none => seqG N S o.dst gs (forkL (skipT S o.dst) gs (exec P N B T inl o { S with g := boL gs S.g } (.lf .nrm)) S.g) (rgn P N B T inl ops r)
   | false => .bad 36
  | .bad => .bad 37

section
variable {P : Program} {G : Glob} {N B : Nat} {M : List Md} {T : List (Nat × TC)} {inl : Nat → List SV → SS → Tr}
theorem opRange_ok {S : SS} {o : Oper} {t : TypeId} {x : Operand} {r : Ws} (ho : o.op = .range t x) (h : opRange P B S t (S.opv N x) = some r) : WOk P G N B M o S r := fun e hf hx hn => by
 unfold opRange at h
 split at h
 ·rename_i hrt hc
  cases h
  simp only [Bool.and_eq_true] at hc
  have hxd : aval G (S.den G N B e) x = .rv (.v (.string ((S.opv N x).get1 e .str))) := by rw [opv_den hf]; exact rt_den hrt
  have := R_range_str (P := P) (G := G) (s := S.den G N B e) t x ho (isStr_spec hc.1) hxd (Nat.le_of_ble_eq_true hc.2)
  unfold Ws.st
  rw [den_put]
  exact this
 ·cases h
theorem fop_ok {S : SS} {o : Oper} {q : Fs} {e : Env} (h : fop N S o = some q) (hf : S.fok e) (hx : ∀ (j : Nat) (x : Ex), q.xs[j]? = some x → Env.at e (S.k + j) = x.den M e) :
    (q.g.get1 e .bool = true → OpStep P G o (S.den G N B e) ((SS.put { S with h := q.h } o.dst q.v).den G N B e)) ∧ (q.g.get1 e .bool = false → OpStep P G o (S.den G N B e) ((S.put o.dst q.v').den G N B e)) := by
  unfold fop at h
  split at h
  · rename_i x ho
    unfold opNext at h
    split at h
    · rename_i id hv
      split at h
      · rename_i s p hg
        split at h
        · rename_i h1 h2
          cases h
          have hxd : aval G (S.den G N B e) x = .ref id := by rw [opv_den hf, hv]; rfl
          have hid : hget (S.den G N B e).heap id = some (.oth (strIt (s.get1 e .str) (Int.toNat (p.get1 e (.int .i64))))) := by
            show hget (denH G e S.h) id = _
            rw [denH_get, hg]; rfl
          have x0 := hx 0 _ rfl
          have x1 := hx 1 _ rfl
          have x2 := hx 2 _ rfl
          have x3 := hx 3 _ rfl
          simp only [Ex.den, F2.den, Nat.add_zero] at x0 x1 x2 x3
          have hgv : (SV.va .bool S.k).get1 e .bool = decide (Int.toNat (p.get1 e (.int .i64)) < ByteArray.size (s.get1 e .str)) := by
            simp only [SV.get1, SV.dyn1, SV.dyn, x0, as_mk]
          refine ⟨fun ht => ?_, fun ht => ?_⟩
          · rw [hgv] at ht
            have := R_next (P := P) (G := G) (s := S.den G N B e) x ho hxd hid (of_decide_eq_true ht) (c := (Utf8.decode (s.get1 e .str) (Int.toNat (p.get1 e (.int .i64)))).1) (k := (Utf8.decode (s.get1 e .str) (Int.toNat (p.get1 e (.int .i64)))).2) rfl
            rw [den_put]
            have hh : (({ S with h := setH S.h id (.it s (.va (.int .i64) (S.k + 3))) } : SS).den G N B e) = { S.den G N B e with heap := hset (S.den G N B e).heap id (.oth (strIt (s.get1 e .str) (Int.toNat (p.get1 e (.int .i64)) + (Utf8.decode (s.get1 e .str) (Int.toNat (p.get1 e (.int .i64)))).2))) } := by
              simp only [SS.den, denH_set, SO.den]
              congr 3
              simp only [SV.get1, SV.dyn1, SV.dyn, x3, as_mk]
              rfl
            rw [hh]
            have hvd : (SV.tp [.cs (.bool true), .va (.int .i64) (S.k + 1), .va (.int .i32) (S.k + 2)]).den G e = .tuple [.rv (.v (.bool true)), .rv (.v (.int .i64 ((Int.toNat (p.get1 e (.int .i64)) : Nat) : Int))), .rv (.v (.int .i32 (((Utf8.decode (s.get1 e .str) (Int.toNat (p.get1 e (.int .i64)))).1 : Nat) : Int)))] := by
              simp only [SV.den, SV.denL, x1, x2, as_mk, rvT, rv0]
            rw [hvd]
            exact this
          · rw [hgv] at ht
            have := R_next_end (P := P) (G := G) (s := S.den G N B e) x ho hxd hid (Nat.le_of_not_lt (of_decide_eq_false ht))
            rw [den_put]
            exact this.step
        · cases h
      · cases h
    · cases h
  · cases h
theorem sop_ok {S : SS} {o : Oper} {r : Ws} (h : sop P N B T S o = some r) : WOk P G N B M o S r := by
 unfold sop at h
 split at h
 ·exact opAlloc_ok (by assumption) h
 ·exact opBox_ok (by assumption) h
 ·exact opStore_ok (by assumption) h
 ·split at h
  ·rename_i hq
   cases h
   exact opLitR_ok (by assumption) hq
  ·split at h
   ·rename_i hq
    cases h
    exact opLit_ok (by assumption) hq
   ·exact opLitB_ok (by assumption) h
 ·exact opMake_ok (by assumption) h
 ·exact opRange_ok (by assumption) h
 ·rename_i c ho
  split at h
  ·rename_i x y t t' hc hx ht
   split at h
   ·rename_i hb
    have := Nat.eq_of_beq_eq_true hb
    subst this
    obtain ⟨callee, args, ts⟩ := c
    simp only at hc hx ht
    rw [hc, arr2 hx, arr2 ht] at ho
    exact opApp_ok ho h
   ·obtain ⟨callee, args, ts⟩ := c
    simp only at hc hx ht
    rw [hc, arr2 hx, arr2 ht] at ho
    exact opAppS_ok ho h
  ·cases h
 ·cases h
theorem run_it {g : SV} {a b : Tr} {e : Env} {v : Bool} (h : g.get1 e .bool = v) : run M (.it g a b) e = match v with | true => run M a e | false => run M b e := by
 simp only [run, Tr.fold, h]
 cases v <;> rfl
def exM : Ek → Exit → Prop
 | .nrm, .normal => True
 | .ext n, .exit m => n = m
 | .ret, .ret => True
 | _, _ => False
def Post (G : Glob) (N B : Nat) (M : List Md) (t : Tr) (e : Env) (k0 : Nat) : Exit → St → Prop := fun ex st =>
 ∃ x S' e', run M t e = some (x, S', e') ∧ exM x ex ∧ Le st (S'.den G N B e') ∧ S'.Bd ∧ S'.fok e' ∧ Agr k0 e e' ∧ k0 ≤ S'.k
theorem Post.sub {t t' : Tr} {e e' : Env} {k k' : Nat} {ex : Exit} {st : St} (h : Post G N B M t' e' k' ex st) (hr : run M t e = run M t' e') (ha : Agr k e e') (hk : k ≤ k') : Post G N B M t e k ex st := by
 obtain ⟨x, S', e2, h1, h2, h3, h4, h5, h6, h7⟩ := h
 exact ⟨x, S', e2, hr.trans h1, h2, h3, h4, h5, Agr.trans ha h6 hk, Nat.le_trans hk h7⟩
theorem exM_J {x : Ek} {ex : Exit} (h : exM x ex) (n : Nat) : x.isJ n = false := by
 cases x with
 | jm m => cases ex <;> cases h
 | _ => rfl
def InlOk (P : Program) (G : Glob) (M : List Md) (inl : Nat → List SV → SS → Tr) : Prop :=
 ∀ f as (S : SS) e, S.Bd → SV.ltL S.k as = true → S.fok e → (inl f as S).safe M e →
  ACalls P G f (SV.denL G e as) (denH G e S.h) S.n fun r τ => ∃ C e', run M (inl f as S) e = some (.nrm, C, e') ∧ r = (C.at 0).den G e' ∧ τ = denH G e' C.h ∧ C.Bd ∧ C.fok e' ∧ Agr S.k e e' ∧ S.k ≤ C.k
theorem fcOf_ok {e : Env} {k : Nat} {x : Ex} (h : Env.at e k = x.den M e) : ∀ c ∈ fcOf k x, c.ok e := fun c hc => by
 unfold fcOf at hc
 split at hc
 ·rw [List.mem_singleton] at hc; subst hc; exact h
 ·rw [List.mem_singleton] at hc; subst hc; exact h
 ·rw [List.mem_singleton] at hc; subst hc; exact h
 ·rw [List.mem_singleton] at hc; subst hc; exact h
 ·rw [List.mem_singleton] at hc; subst hc; exact h
 ·cases hc
theorem fcOf_lt {k : Nat} {x : Ex} (h : x.lt k = true) : ltG (k + 1) (fcOf k x) = true := by
 have hb : Nat.blt k (k + 1) = true := lt_blt (Nat.lt_succ_self k)
 unfold fcOf
 split
 ·simp only [ltG, Fc.lt, hb, lt_mono (Nat.le_succ k) (x := _) h, Bool.and_self]
 ·simp only [ltG, Fc.lt, hb, lt_mono (Nat.le_succ k) (x := _) h, Bool.and_self]
 ·simp only [ltG, Fc.lt, hb, lt_mono (Nat.le_succ k) (x := _) h, Bool.and_self]
 ·simp only [Ex.lt, Bool.and_eq_true] at h
  simp only [ltG, Fc.lt, hb, lt_mono (Nat.le_succ k) h.1, lt_mono (Nat.le_succ k) h.2, Bool.and_self]
 ·simp only [Ex.lt, Bool.and_eq_true] at h
  simp only [ltG, Fc.lt, hb, lt_mono (Nat.le_succ k) h.1, lt_mono (Nat.le_succ k) h.2, Bool.and_self]
 ·rfl
theorem ltG_app {k : Nat} : ∀ {a b : List Fc}, ltG k a = true → ltG k b = true → ltG k (a ++ b) = true
 | [], _, _, h => h
 | c :: a, b, h, h' => by
  simp only [ltG, Bool.and_eq_true] at h
  simp only [List.cons_append, ltG, h.1, ltG_app h.2 h', Bool.and_self]
theorem addF_ok {e : Env} : ∀ {xs : List Ex} {k : Nat} {g : List Fc}, (∀ c ∈ g, c.ok e) → (∀ (j : Nat) (x : Ex), xs[j]? = some x → Env.at e (k + j) = x.den M e) → ∀ c ∈ addF k xs g, c.ok e
 | [], _, _, h, _ => h
 | x :: r, k, g, h, hx => by
  refine addF_ok (xs := r) (k := k + 1) (fun c hc => ?_) fun j y hy => ?_
  ·rcases List.mem_append.1 hc with hc | hc
   ·exact fcOf_ok (hx 0 x (by simp)) c hc
   ·exact h c hc
  ·have := hx (j + 1) y (by simpa using hy)
   rw [show k + 1 + j = k + (j + 1) by omega]; exact this
theorem addF_lt : ∀ {xs : List Ex} {k : Nat} {g : List Fc}, ltX k xs = true → ltG k g = true → ltG (k + xs.length) (addF k xs g) = true
 | [], _, _, _, h => h
 | x :: r, k, g, hl, h => by
  simp only [ltX, Bool.and_eq_true] at hl
  have := addF_lt (xs := r) (k := k + 1) (g := fcOf k x ++ g) hl.2 (ltG_app (fcOf_lt hl.1) (ltG_mono (Nat.le_succ k) h))
  rw [List.length_cons, show k + (r.length + 1) = k + 1 + r.length by omega]
  exact this
theorem adv_ok {S : SS} {e : Env} {xs : List Ex} (hb : S.Bd) (hf : S.fok e) (hl : ltX S.k xs = true) :
    (S.adv S.k xs).Bd ∧ (S.adv S.k xs).fok (envX M e S.k xs) ∧ (S.adv S.k xs).den G N B (envX M e S.k xs) = S.den G N B e := by
  have ha : Agr S.k e (envX M e S.k xs) := envX_agr (Nat.le_refl _)
  refine ⟨⟨fun i x hx => lt_mono (Nat.le_add_right _ _) (hb.l i x hx), ltH_mono (Nat.le_add_right _ _) hb.h, addF_lt hl hb.g⟩, addF_ok (fok_keep ha hb.g hf) (envX_at hl), ?_⟩
  exact (den_keep ha hb : S.den G N B (envX M e S.k xs) = S.den G N B e)
theorem put_bd {S : SS} {dst : Option Nat} {v : SV} (hb : S.Bd) (hv : v.lt S.k = true) : (S.put dst v).Bd := by
 cases dst with
 | none => exact hb
 | some d =>
  refine ⟨fun i x hx => ?_, hb.h, hb.g⟩
  simp only [SS.put, Tri.get_put] at hx
  split at hx
  ·cases hx; exact hv
  ·exact hb.l i x hx
theorem cseG_ok {e : Env} {f : F1} {x : SV} {j : Nat} : ∀ {l : List Fc}, cseG f x l = some j → (∀ c ∈ l, c.ok e) → Env.at e j = ⟨f.c, f.den (x.get1 e f.a)⟩
 | .d1 i g y :: r, h, hc => by
  simp only [cseG] at h
  split at h
  ·rename_i hb
   cases h
   simp only [Bool.and_eq_true, decide_eq_true_eq] at hb
   have := hc (.d1 j g y) (by simp)
   simp only [Fc.ok] at this
   rw [this, hb.1, eqS_eq hb.2]
  ·exact cseG_ok h fun c hm => hc c (by simp [hm])
 | .d2 _ _ _ _ :: r, h, hc => cseG_ok (l := r) h fun c hm => hc c (by simp [hm])
 | .rg _ _ :: r, h, hc => cseG_ok (l := r) h fun c hm => hc c (by simp [hm])
 | .bo _ _ :: r, h, hc => cseG_ok (l := r) h fun c hm => hc c (by simp [hm])
theorem cse_ok {S : SS} {r : Rs} {t : Rt} {j : Nat} {e : Env} (h : cseOf S r = some (t, j)) (hf : S.fok e) (hl : ltX S.k r.xs = true) : (SV.va t j).den G e = r.v.den G (envX M e S.k r.xs) ∧ Nat.blt j S.k = true ∧ r.ns = [] := by
 unfold cseOf at h
 split at h
 ·rename_i f x t' k hx hn hv
  split at h
  ·rename_i hk
   split at h
   ·rename_i j' hj
    split at h
    ·rename_i hlt
     cases h
     refine ⟨?_, hlt, hn⟩
     have h1 := cseG_ok hj hf
     have h2 := envX_at (M := M) (e := e) hl 0 (.f1 f x) (by rw [hx]; rfl)
     rw [Nat.add_zero] at h2
     rw [hv, Nat.eq_of_beq_eq_true hk]
     simp only [SV.den]
     rw [h1, h2]
     have hlx : x.lt S.k = true := by
      rw [hx] at hl
      simp only [ltX, Ex.lt, Bool.and_eq_true] at hl
      exact hl.1
     simp only [Ex.den]
     rw [get1_agr (envX_agr (Nat.le_refl _)) hlx]
    ·cases h
   ·cases h
  ·cases h
 ·cases h
theorem fold_ok {S : SS} {r : Rs} {v : SV} {e : Env} (h : foldOf S r = some v) (hl : ltX S.k r.xs = true) : v.den G e = r.v.den G (envX M e S.k r.xs) ∧ v.lt S.k = true ∧ r.ns = [] := by
 unfold foldOf at h
 split at h
 ·rename_i f a b t k hx hn hv
  split at h
  ·rename_i hk
   simp only [Bool.and_eq_true] at hk
   have h2 := envX_at (M := M) (e := e) hl 0 _ (by rw [hx]; rfl)
   rw [Nat.add_zero] at h2
   rw [hv, Nat.eq_of_beq_eq_true hk.1, eqR_eq hk.2]
   unfold foldF at h
   split at h <;> first | cases h | skip
   all_goals
    refine ⟨?_, rfl, hn⟩
    simp only [SV.den, h2, Ex.den, as_mk, SV.get1, SV.dyn1, SV.dyn, F2.den]
    rfl
  ·cases h
 ·cases h
theorem put_fok {S : SS} {dst : Option Nat} {v : SV} {e : Env} (hf : S.fok e) : (S.put dst v).fok e := by
 cases dst <;> exact hf
theorem put_k {S : SS} {dst : Option Nat} {v : SV} : (S.put dst v).k = S.k := by cases dst <;> rfl
end
end Go.Av
namespace Go.Av
open Go

section
variable {P : Program} {G : Glob} {N B : Nat} {M : List Md} {T : List (Nat × TC)} {inl : Nat → List SV → SS → Tr}
theorem AOps.stepS {ops : Array Oper} {o : Oper} {rest : List Oper} {s : St} {Q : Exit → St → Prop} {A : St → Prop} (hg : gwant ops s o = some true)
    (h : ∀ (E : Entry) (a : Act) (w : World), Rel E G s a w → ∀ (K : Act → World → Prop) (Q : Exit → Act → World → Prop), (∀ t, A t → ∀ a' w', Rel E G t a' w' → K a' w') → o.wp P a w K Q) (k : ∀ t, A t → AOps P G ops Q rest t) : AOps P G ops Q (o :: rest) s :=
  fun E a w hr => wpList_step fun _ hK => by
    have hy := wanted_of hr hg
    simp only [hy, if_true]
    exact h E a w hr _ _ fun t ht a' w' hr' => hK a' w' (k t ht E a' w' hr')
mutual
theorem bel_den {n : Nat} {e : Env} : ∀ {x : SV}, SV.bel n x = true → belowA n (x.den G e) = true := fun {x} h => by
 cases x with
 | ag l => simp only [SV.den, belowA]; exact belL_den (l := l) h
 | tp l => simp only [SV.den, belowA]; exact belL_den (l := l) h
 | fn f a b =>
  simp only [SV.bel, Bool.and_eq_true] at h
  simp only [SV.den, belowA, belL_den h.1, belL_den h.2, Bool.and_self]
 | px k o => simp only [SV.den, belowA]; exact decide_eq_true (blt_lt h)
 | pe k x o => simp only [SV.den, belowA]; exact decide_eq_true (blt_lt (i := k) h)
 | pv k o x n => simp only [SV.den, belowA]; exact decide_eq_true (blt_lt (i := k) h)
 | bs k n => simp only [SV.den, belowA]; exact decide_eq_true (blt_lt (i := k) h)
 | gp g i o =>
  cases i with
  | none => simp only [SV.den]; cases g.get1 e .bool <;> rfl
  | some k =>
   have h1 : decide (k < n) = true := decide_eq_true (blt_lt (i := k) h)
   simp only [SV.den]; cases g.get1 e .bool
   ·rfl
   ·exact h1
 | sl k => simp only [SV.den, belowA]; exact decide_eq_true (blt_lt h)
 | rf k => simp only [SV.den, belowA]; exact decide_eq_true (blt_lt h)
 | gd g b x =>
  have : belowA n (x.den G e) = true := bel_den h
  simp only [SV.den]
  cases g.get1 e .bool <;> cases b <;> first | exact this | rfl
 | gl g o => simp only [SV.den]; cases G g <;> rfl
 | _ => rfl
theorem belL_den {n : Nat} {e : Env} : ∀ {l : List SV}, SV.belL n l = true → belowL n (SV.denL G e l) = true := fun {l} h => by
 match l with
 | [] => rfl
 | x :: r =>
  simp only [SV.belL, Bool.and_eq_true] at h
  simp only [SV.denL, belowL, bel_den h.1, belL_den h.2, Bool.and_self]
end
theorem belHS_den {n : Nat} {e : Env} : ∀ {h : List (Nat × SO)}, belHS n h = true → belowH n (denH G e h) = true
 | [], _ => rfl
 | (id, .bx t l) :: r, h => by
  simp only [belHS, Bool.and_eq_true] at h
  simp only [denH, SO.den, belowH, belHS_den h.2.2, belL_den h.2.1, decide_eq_true (blt_lt h.1), Bool.and_self]
 | (id, .rw t c x) :: r, h => by
  simp only [belHS, Bool.and_eq_true] at h
  simp only [denH, SO.den, belowH, belHS_den h.2, decide_eq_true (blt_lt h.1), Bool.and_self]
 | (id, .it x p) :: r, h => by
  simp only [belHS, Bool.and_eq_true] at h
  simp only [denH, SO.den, belowH, belHS_den h.2, decide_eq_true (blt_lt h.1), Bool.and_self]
theorem getH_mem : ∀ {h : List (Nat × SO)} {id : Nat} {o : SO}, getH h id = some o → (id, o) ∈ h
 | (i, p) :: r, id, o, h => by
  simp only [getH] at h
  split at h
  ·rename_i hb
   cases h
   rw [Nat.eq_of_beq_eq_true hb]
   simp
  ·exact List.mem_cons_of_mem _ (getH_mem h)
theorem kindsOk_den {n : Nat} {h0 : List (Nat × SO)} {e e' : Env} : ∀ {h : List (Nat × SO)}, kindsOk n h0 h = true → ∀ id o, id < n → hget (denH G e' h) id = some o → ∃ o', hget (denH G e h0) id = some o' ∧ sameK o' o := by
 have key : ∀ {h : List (Nat × SO)}, kindsOk n h0 h = true → ∀ id so, (id, so) ∈ h → id < n → ∃ o', getH h0 id = some o' ∧ SO.kind o' so = true := by
  intro h
  induction h with
  | nil => intro _ _ _ hm; cases hm
  | cons p r ih =>
   obtain ⟨j, q⟩ := p
   intro hk id so hm hlt
   simp only [kindsOk, Bool.and_eq_true] at hk
   rcases List.mem_cons.1 hm with he | he
   ·cases he
    have h1 := hk.1
    rw [lt_blt hlt] at h1
    simp only at h1
    split at h1
    ·rename_i o' ho; exact ⟨o', ho, h1⟩
    ·cases h1
   ·exact ih hk.2 id so he hlt
 intro h hk id o hlt hg
 rw [denH_get] at hg
 cases hs : getH h id with
 | none => rw [hs] at hg; cases hg
 | some so =>
  rw [hs] at hg
  cases hg
  obtain ⟨o', h1, h2⟩ := key hk id so (getH_mem hs) hlt
  refine ⟨o'.den G e, by rw [denH_get, h1]; rfl, ?_⟩
  cases o' <;> cases so <;> first | trivial | (cases h2; done) | exact Nat.eq_of_beq_eq_true h2
mutual
theorem kill_lt (id : Nat) {k : Nat} : ∀ {x : SV}, x.lt k = true → (x.kill id).lt k = true := fun {x} h => by
 cases x with
 | ag l => exact killL_lt id (l := l) h
 | tp l => exact killL_lt id (l := l) h
 | fn f a b =>
  simp only [SV.lt, Bool.and_eq_true] at h
  simp only [SV.kill, SV.lt, Bool.and_eq_true]
  exact ⟨killL_lt id h.1, killL_lt id h.2⟩
 | gd g b x =>
  simp only [SV.lt, Bool.and_eq_true] at h
  simp only [SV.kill, SV.lt, Bool.and_eq_true]
  exact ⟨h.1, kill_lt id h.2⟩
 | px j o => simp only [SV.kill]; split <;> first | rfl | exact h
 | pe j x o => simp only [SV.kill]; split <;> first | rfl | exact h
 | pv j o x n => simp only [SV.kill]; split <;> first | rfl | exact h
 | bs j n => simp only [SV.kill]; split <;> rfl
 | gp g i o =>
  cases i with
  | none => exact h
  | some j => simp only [SV.kill]; split <;> exact h
 | sl j => simp only [SV.kill]; split <;> first | rfl | exact h
 | rf j => simp only [SV.kill]; split <;> first | rfl | exact h
 | _ => exact h
theorem killL_lt (id : Nat) {k : Nat} : ∀ {l : List SV}, SV.ltL k l = true → SV.ltL k (SV.killL id l) = true := fun {l} h => by
 match l with
 | [] => rfl
 | x :: r =>
  simp only [SV.ltL, Bool.and_eq_true] at h
  simp only [SV.killL, SV.ltL, Bool.and_eq_true]
  exact ⟨kill_lt id h.1, killL_lt id h.2⟩
end
theorem ws_ok {S : SS} {o : Oper} {r : Ws} {e : Env} (hb : S.Bd) (hf : S.fok e) (hl : ltX S.k r.xs = true) (hv : r.v.lt (S.k + r.xs.length) = true) (hh : ltH (S.k + r.xs.length) r.h = true) :
    ((r.st S o.dst).adv S.k r.xs).Bd ∧ ((r.st S o.dst).adv S.k r.xs).fok (envX M e S.k r.xs) := by
  obtain ⟨a1, a2, _⟩ := adv_ok (M := M) (G := fun _ => none) (N := 0) (B := 0) hb hf hl
  have hg : (r.st S o.dst).g = S.g := by unfold Ws.st; cases o.dst <;> rfl
  refine ⟨⟨fun i x hx => ?_, ?_, ?_⟩, ?_⟩
  · have hx : (r.st S o.dst).l.get i = some x := hx
    show x.lt (S.k + r.xs.length) = true
    have base : ∀ x, (r.l S.l).get i = some x → x.lt (S.k + r.xs.length) = true := fun x hx => by
      unfold Ws.l at hx
      split at hx
      · exact lt_mono (Nat.le_add_right _ _) (hb.l i x hx)
      · rw [Tri.get_map] at hx
        cases hq : S.l.get i with
        | none => rw [hq] at hx; cases hx
        | some y =>
          rw [hq] at hx
          cases hx
          exact kill_lt _ (lt_mono (Nat.le_add_right _ _) (hb.l i y hq))
    unfold Ws.st at hx
    cases hd : o.dst with
    | none => rw [hd] at hx; exact base x hx
    | some d =>
      rw [hd] at hx
      simp only [SS.put, Tri.get_put] at hx
      split at hx
      · cases hx; exact hv
      · exact base x hx
  · have : ((r.st S o.dst).adv S.k r.xs).h = r.h := by unfold Ws.st SS.adv; cases o.dst <;> rfl
    rw [this]
    exact hh
  · show ltG (S.k + r.xs.length) (addF S.k r.xs (r.st S o.dst).g) = true
    rw [hg]
    exact a1.g
  · show ∀ c ∈ addF S.k r.xs (r.st S o.dst).g, _
    rw [hg]
    exact a2
theorem ltL_app {k : Nat} : ∀ {a b : List SV}, SV.ltL k a = true → SV.ltL k b = true → SV.ltL k (a ++ b) = true
 | [], _, _, h => h
 | x :: a, b, h, h' => by
  simp only [SV.ltL, Bool.and_eq_true] at h
  simp only [List.cons_append, SV.ltL, h.1, ltL_app h.2 h', Bool.and_self]
theorem ltL_set {k : Nat} {x : SV} (hx : x.lt k = true) : ∀ {l : List SV} {i : Nat}, SV.ltL k l = true → SV.ltL k (l.set i x) = true
 | [], _, h => h
 | y :: l, 0, h => by simp only [SV.ltL, Bool.and_eq_true, List.set] at h ⊢; exact ⟨hx, h.2⟩
 | y :: l, i + 1, h => by simp only [SV.ltL, Bool.and_eq_true, List.set] at h ⊢; exact ⟨h.1, ltL_set hx h.2⟩
theorem ltH_set {k : Nat} {o : SO} (ho : o.lt k = true) : ∀ {l : List (Nat × SO)} {i : Nat}, ltH k l = true → ltH k (setH l i o) = true
 | [], _, _ => by simp only [setH, ltH, ho, Bool.and_self]
 | (j, x) :: l, i, h => by
  simp only [ltH, Bool.and_eq_true] at h
  simp only [setH]
  split
  ·simp only [ltH, Bool.and_eq_true]; exact ⟨ho, h.2⟩
  ·simp only [ltH, Bool.and_eq_true]; exact ⟨h.1, ltH_set ho h.2⟩
theorem ltH_get {k id : Nat} {o : SO} : ∀ {l : List (Nat × SO)}, ltH k l = true → getH l id = some o → o.lt k = true
 | [], _, h => by cases h
 | (j, x) :: l, hl, h => by
  simp only [ltH, Bool.and_eq_true] at hl
  simp only [getH] at h
  split at h
  ·cases h; exact hl.1
  ·exact ltH_get hl.2 h
theorem denL_set {e : Env} {x : SV} : ∀ {l : List SV} {i : Nat}, SV.denL G e (l.set i x) = (SV.denL G e l).set i (x.den G e)
 | [], _ => rfl
 | y :: l, 0 => rfl
 | y :: l, i + 1 => by simp only [List.set, SV.denL, denL_set (l := l)]
theorem killHS_lt (id : Nat) {k : Nat} : ∀ {h : List (Nat × SO)}, ltH k h = true → ltH k (killHS id h) = true
 | [], h => h
 | (j, .bx t l) :: r, h => by
  simp only [ltH, Bool.and_eq_true] at h
  unfold killHS
  split
  ·exact killHS_lt id h.2
  ·simp only [ltH, Bool.and_eq_true]
   exact ⟨killL_lt id h.1, killHS_lt id h.2⟩
 | (j, .rw t c x) :: r, h => by
  simp only [ltH, Bool.and_eq_true] at h
  unfold killHS
  split
  ·exact killHS_lt id h.2
  ·simp only [ltH, Bool.and_eq_true]
   exact ⟨h.1, killHS_lt id h.2⟩
 | (j, .it x p) :: r, h => by
  simp only [ltH, Bool.and_eq_true] at h
  unfold killHS
  split
  ·exact killHS_lt id h.2
  ·simp only [ltH, Bool.and_eq_true]
   exact ⟨h.1, killHS_lt id h.2⟩
theorem renX_ok {id off k m : Nat} {C : SS} {e : Env} (hb : C.Bd) (hf : C.fok e) : (renX B id off k m C).Bd ∧ (renX B id off k m C).fok e ∧ (renX B id off k m C).k = C.k ∧ Le (C.den G N B e) ((renX B id off k m C).den G N B e) := by
 unfold renX
 split
 ·rename_i t l te c x hg hm
  split
  ·rename_i hc
   simp only [Bool.and_eq_true, Bool.not_eq_true'] at hc
   obtain ⟨c1, ⟨c2, c3⟩, c4⟩ := hc
   refine ⟨⟨fun i y hy => ?_, ltH_set (o := .bx t _) (ltL_set (x := .sl k) rfl (killL_lt _ (killL_lt _ (ltH_get (o := .bx t l) hb.h hg)))) ?_, hb.g⟩, hf, rfl, ?_⟩
   ·simp only [Tri.get_map] at hy
    cases hq : C.l.get i with
    | none => rw [hq] at hy; cases hy
    | some z =>
     rw [hq] at hy
     simp only [Option.map_some, Option.some.injEq] at hy
     subst hy
     exact kill_lt _ (kill_lt _ (hb.l i z hq))
   ·have h1 := ltH_get (o := .rw te c x) hb.h hm
    have h2 := killHS_lt k (killHS_lt m hb.h)
    simp only [ltH, Bool.and_eq_true]
    exact ⟨h1, h2⟩
   ·refine Le.renB id off m k te (nT c) (t := t) (cs := SV.denL G e l) (es := List.map (cT c) (x.get1 e (.li c))) (by simp only [SS.den, denH_get, hg, Option.map_some, SO.den]) (by simp only [SS.den, denH_get, hm, Option.map_some, SO.den]) ?_ (Nat.le_of_ble_eq_true c2) (blt_lt c3) (Nat.ne_of_beq_eq_false c4) ?_
    ·rw [denL_map, List.getElem?_map]
     unfold isSl at c1
     split at c1
     ·rename_i hl
      rw [hl]
      have := Nat.eq_of_beq_eq_true c1
      subst this
      rfl
     ·cases c1
    ·simp only [SS.den, tabT_map, denH_set, denH, SO.den, killHS_den, denL_set, killL_den, SV.den]
  ·exact ⟨hb, hf, rfl, Le.refl _⟩
 ·exact ⟨hb, hf, rfl, Le.refl _⟩
theorem renS_ok {S C : SS} {e : Env} (hb : C.Bd) (hf : C.fok e) : (renS B S C).Bd ∧ (renS B S C).fok e ∧ (renS B S C).k = C.k ∧ Le (C.den G N B e) ((renS B S C).den G N B e) := by
 unfold renS
 split
 ·exact renX_ok hb hf
 ·exact ⟨hb, hf, rfl, Le.refl _⟩
theorem exec_ok (hI : InlOk P G M inl) {ops : Array Oper} {o : Oper} {r : List Oper} {S : SS} {k : SS → Tr} {e : Env} {Q : Exit → St → Prop} (hb : S.Bd) (hf : S.fok e) (hw : gwant ops (S.den G N B e) o = some true) (hs : (exec P N B T inl o S k).safe M e)
    (hk : ∀ S' e', S'.Bd → S'.fok e' → Agr S.k e e' → S.k ≤ S'.k → (k S').safe M e' → run M (exec P N B T inl o S k) e = run M (k S') e' → AOps P G ops Q r (S'.den G N B e')) : AOps P G ops Q (o :: r) (S.den G N B e) := by
  have hsx := hs
  unfold exec at hsx
  split at hsx
  · rename_i q hv
    split at hsx
    · rename_i hc
      split at hsx
      · rename_i t j hcse
        have hT : exec P N B T inl o S k = k (S.put o.dst (.va t j)) := by unfold exec; rw [hv]; simp only [hc, hcse]
        simp only [Bool.and_eq_true] at hc
        obtain ⟨w1, w2, w3⟩ := cse_ok (M := M) (G := G) hcse hf hc.1
        have hag : Agr S.k e (envX M e S.k q.xs) := envX_agr (Nat.le_refl _)
        have hst := vop_ok (G := G) (B := B) (M := M) hv (envX M e S.k q.xs) (fok_keep hag hb.g hf) (envX_at hc.1) (by rw [w3]; intro n hn; cases hn)
        rw [den_keep hag hb, ← w1] at hst
        have hden : (S.den G N B e).put o.dst ((SV.va t j).den G e) = (S.put o.dst (.va t j)).den G N B e := by rw [den_put]
        refine AOps.step hw (hden ▸ hst.step) ?_
        exact hk _ e (put_bd hb w2) (put_fok hf) (Agr.refl _ _) (by rw [put_k]; exact Nat.le_refl _) hsx (by rw [hT])
      rename_i hcse
      split at hsx
      · rename_i v hfd
        have hT : exec P N B T inl o S k = k (S.put o.dst v) := by unfold exec; rw [hv]; simp only [hc, hcse, hfd]
        simp only [Bool.and_eq_true] at hc
        obtain ⟨w1, w2, w3⟩ := fold_ok (M := M) (G := G) (e := e) hfd hc.1
        have hag : Agr S.k e (envX M e S.k q.xs) := envX_agr (Nat.le_refl _)
        have hst := vop_ok (G := G) (B := B) (M := M) hv (envX M e S.k q.xs) (fok_keep hag hb.g hf) (envX_at hc.1) (by rw [w3]; intro n hn; cases hn)
        rw [den_keep hag hb, ← w1] at hst
        have hden : (S.den G N B e).put o.dst (v.den G e) = (S.put o.dst v).den G N B e := by rw [den_put]
        refine AOps.step hw (hden ▸ hst.step) ?_
        exact hk _ e (put_bd hb w2) (put_fok hf) (Agr.refl _ _) (by rw [put_k]; exact Nat.le_refl _) hsx (by rw [hT])
      rename_i hfd
      have hT : exec P N B T inl o S k = emit S.k q.xs q.ns (k ((S.adv S.k q.xs).put o.dst q.v)) := by unfold exec; rw [hv]; simp only [hc, hcse, hfd]
      simp only [Bool.and_eq_true] at hc
      obtain ⟨n1, n2⟩ := emit_safe hsx
      obtain ⟨a1, a2, a3⟩ := adv_ok (M := M) (G := G) (N := N) (B := B) hb hf hc.1
      have hag : Agr S.k e (envX M e S.k q.xs) := envX_agr (Nat.le_refl _)
      have hst := vop_ok (G := G) (B := B) (M := M) hv (envX M e S.k q.xs) (fok_keep hag hb.g hf) (envX_at hc.1) n1
      rw [den_keep hag hb] at hst
      have hden : (S.den G N B e).put o.dst (q.v.den G (envX M e S.k q.xs)) = ((S.adv S.k q.xs).put o.dst q.v).den G N B (envX M e S.k q.xs) := by rw [den_put, a3]
      refine AOps.step hw (hden ▸ hst.step) ?_
      exact hk _ _ (put_bd a1 hc.2) (put_fok a2) hag (by rw [put_k]; exact Nat.le_add_right _ _) n2 (by rw [hT, emit_run])
    · exact hsx.elim
  · rename_i hv
    split at hsx
    · rename_i q hq
      split at hsx
      · rename_i hc
        have hT : exec P N B T inl o S k = emit S.k q.xs q.ns (k ((q.st S o.dst).adv S.k q.xs)) := by unfold exec; rw [hv, hq]; simp only [hc]
        simp only [Bool.and_eq_true] at hc
        obtain ⟨n1, n2⟩ := emit_safe hsx
        have hag : Agr S.k e (envX M e S.k q.xs) := envX_agr (Nat.le_refl _)
        have hst := sop_ok (G := G) (M := M) hq (envX M e S.k q.xs) (fok_keep hag hb.g hf) (envX_at hc.1) n1
        rw [den_keep hag hb] at hst
        obtain ⟨w1, w2⟩ := ws_ok (M := M) (o := o) hb hf hc.1 hc.2.1 hc.2.2
        refine AOps.step hw hst ?_
        have hkk : S.k ≤ ((q.st S o.dst).adv S.k q.xs).k := Nat.le_add_right _ _
        exact hk ((q.st S o.dst).adv S.k q.xs) _ w1 w2 hag hkk n2 (by rw [hT, emit_run])
      · exact hsx.elim
    · rename_i hq
      split at hsx
      · rename_i q hfo
        split at hsx
        · rename_i hc
          have hT : exec P N B T inl o S k = emit S.k q.xs [] (.it q.g (k (q.st S o.dst)) (k (q.sf S o.dst))) := by unfold exec; rw [hv, hq, hfo]; simp only [hc]
          simp only [Fs.ok, Bool.and_eq_true] at hc
          obtain ⟨_, n2⟩ := emit_safe hsx
          have hag : Agr S.k e (envX M e S.k q.xs) := envX_agr (Nat.le_refl _)
          obtain ⟨a1, a2, a3⟩ := adv_ok (M := M) (G := G) (N := N) (B := B) hb hf hc.1.1
          obtain ⟨w1, w2⟩ := fop_ok (P := P) (G := G) (B := B) hfo (fok_keep hag hb.g hf) (envX_at hc.1.1)
          rw [den_keep hag hb] at w1 w2
          have hkk : ∀ b, Nat.ble S.k (S.k + b) = true := fun b => Nat.ble_eq_true_of_le (Nat.le_add_right _ _)
          have hrun : run M (exec P N B T inl o S k) e = run M (.it q.g (k (q.st S o.dst)) (k (q.sf S o.dst))) (envX M e S.k q.xs) := by rw [hT, emit_run]
          have bo : ∀ b, q.g.get1 (envX M e S.k q.xs) .bool = b → ∀ c ∈ (Fc.bo q.g b :: (S.adv S.k q.xs).g), c.ok (envX M e S.k q.xs) := fun b hg c hm => by
            rcases List.mem_cons.1 hm with rfl | hm
            · exact hg
            · exact a2 c hm
          cases hg : q.g.get1 (envX M e S.k q.xs) .bool with
          | true =>
            refine AOps.step hw (w1 hg) ?_
            have hbd : (q.st S o.dst).Bd := nj_bd (put_bd (S := { S.adv S.k q.xs with h := q.h, g := .bo q.g true :: (S.adv S.k q.xs).g }) ⟨a1.l, hc.2.1, by simp only [ltG, Fc.lt, Bool.and_eq_true]; exact ⟨hc.1.2, a1.g⟩⟩ hc.2.2.1)
            have hfk : (q.st S o.dst).fok (envX M e S.k q.xs) := nj_fok (put_fok (S := { S.adv S.k q.xs with h := q.h, g := .bo q.g true :: (S.adv S.k q.xs).g }) (bo true hg))
            have hd : (SS.put { S with h := q.h } o.dst q.v).den G N B (envX M e S.k q.xs) = (q.st S o.dst).den G N B (envX M e S.k q.xs) := by cases o.dst <;> rfl
            rw [hd]
            exact hk _ _ hbd hfk hag (by show S.k ≤ (SS.put _ _ _).k; rw [put_k]; exact Nat.le_add_right _ _) (n2.1 hg) (by rw [hrun, run_it hg])
          | false =>
            refine AOps.step hw (w2 hg) ?_
            have hbd : (q.sf S o.dst).Bd := nj_bd (put_bd (S := { S.adv S.k q.xs with g := .bo q.g false :: (S.adv S.k q.xs).g }) ⟨a1.l, a1.h, by simp only [ltG, Fc.lt, Bool.and_eq_true]; exact ⟨hc.1.2, a1.g⟩⟩ hc.2.2.2)
            have hfk : (q.sf S o.dst).fok (envX M e S.k q.xs) := nj_fok (put_fok (S := { S.adv S.k q.xs with g := .bo q.g false :: (S.adv S.k q.xs).g }) (bo false hg))
            have hd : (S.put o.dst q.v').den G N B (envX M e S.k q.xs) = (q.sf S o.dst).den G N B (envX M e S.k q.xs) := by cases o.dst <;> rfl
            rw [hd]
            exact hk _ _ hbd hfk hag (by show S.k ≤ (SS.put _ _ _).k; rw [put_k]; exact Nat.le_add_right _ _) (n2.2 hg) (by rw [hrun, run_it hg])
        · exact hsx.elim
      rename_i hfo
      split at hsx
      · rename_i f as hcal
        split at hsx
        · rename_i hcb
          have hT : exec P N B T inl o S k = seqT N S ((inl f as S).graft (backT S o.dst) none) fun C => k (renS B S C) := by unfold exec; rw [hv, hq, hfo, hcal]; simp only [hcb]
          obtain ⟨t1, _, t3⟩ := seqT_ok (G := G) (B := B) hb hf hsx
          obtain ⟨g1, g2, g3⟩ := graft_ok (inl f as S) none t1
          unfold calleeOf at hcal
          split at hcal
          · rename_i c hop
            split at hcal
            · rename_i x hx
              split at hcal
              · rename_i f' p q' hfv
                cases hcal
                obtain ⟨callee, args, ts⟩ := c
                simp only at hx
                subst hx
                have hlt : SV.ltL S.k (p ++ args.toList.map (S.opv N) ++ q') = true := by
                  have hx' := opv_lt (N := N) hb x
                  rw [hfv] at hx'
                  simp only [SV.lt, Bool.and_eq_true] at hx'
                  refine ltL_app (ltL_app hx'.1 ?_) hx'.2
                  generalize args.toList = l
                  induction l with
                  | nil => rfl
                  | cons y r ih => simp only [List.map_cons, SV.ltL, opv_lt hb y, ih, Bool.and_self]
                have hcall := hI f _ S e hb hlt hf g1
                have hden : SV.denL G e (p ++ args.toList.map (S.opv N) ++ q') = SV.denL G e p ++ args.toList.map (aval G (S.den G N B e)) ++ SV.denL G e q' := by
                  rw [denL_map, denL_map, denL_map, List.map_append, List.map_append, List.map_map]
                  congr 2
                  exact List.map_congr_left fun y _ => (opv_den hf y).symm
                rw [hden] at hcall
                refine AOps.stepS (A := fun t => ∃ C e', run M (inl f (p ++ args.toList.map (S.opv N) ++ q') S) e = some (.nrm, C, e') ∧ C.Bd ∧ C.fok e' ∧ Agr S.k e e' ∧ S.k ≤ C.k ∧ backOk S C = true ∧ t = (S.back o.dst C).den G N B e') hw
                  (callF hop (by rw [opv_den hf, hfv]; rfl) hcb hcall fun r τ ⟨C, e', c1, c2, c3, c4, c5, c6, c7⟩ => ?_) fun t ⟨C, e', c1, c4, c5, c6, c7, hbk, ht⟩ => ?_
                · have hg := (g3 C e' c1).1
                  have hbk : backOk S C = true := by
                    unfold backT at hg
                    split at hg
                    · assumption
                    · exact hg.elim
                  have hbk' := hbk
                  simp only [backOk, Bool.and_eq_true] at hbk'
                  refine ⟨C.n, Nat.le_of_ble_eq_true hbk'.2.1, ?_, ?_, ?_, C, e', c1, c4, c5, c6, c7, hbk, ?_⟩
                  · rw [c2]; exact bel_den hbk'.1.1
                  · rw [c3]; exact belHS_den hbk'.1.2
                  · rw [c3]; exact kindsOk_den hbk'.2.2
                  · rw [c2, c3, SS.back, den_put]
                    have := den_keep (G := G) (N := N) (B := B) c6 hb
                    have hsl : tabT G e' S.l 0 N = tabT G e S.l 0 N := congrArg St.slots this
                    simp only [SS.den, hsl]
                · subst ht
                  have hg := (g3 C e' c1)
                  have hrun : run M ((inl f (p ++ args.toList.map (S.opv N) ++ q') S).graft (backT S o.dst) none) e = some (.nrm, S.back o.dst C, e') := by
                    rw [g2, c1]
                    simp only [gft, backT, hbk]
                    rfl
                  have hbd : (S.back o.dst C).Bd := by
                    unfold SS.back
                    refine put_bd ⟨fun i x hx => lt_mono c7 (hb.l i x hx), c4.h, c4.g⟩ ?_
                    show (C.at 0).lt C.k = true
                    unfold SS.at
                    cases hc0 : C.l.get 0 with
                    | none => rfl
                    | some y => exact c4.l 0 y hc0
                  obtain ⟨S2, e2, s1, s2, s3, s4, s5, s6, s7⟩ := t3 _ _ hrun hbd (put_fok c5) c6 (by unfold SS.back; rw [put_k]; exact c7)
                  obtain ⟨n1, n2, n3, n4⟩ := renS_ok (G := G) (N := N) (B := B) (S := S) s2 s3
                  exact AOps.le (Le.trans s1 n4) (hk _ e2 n1 n2 s4 (by rw [n3]; exact s5) s6 (by rw [hT, s7]))
              · cases hcal
            · cases hcal
          · cases hcal
        · exact hsx.elim
      · exact hsx.elim
def GdOk (G : Glob) (N B : Nat) (ops : Array Oper) (o : Oper) (S : SS) (e : Env) : Gd → Prop
 | .yes => gwant ops (S.den G N B e) o = some true
 | .no => gwant ops (S.den G N B e) o = some false
 | .on gs => (allG e gs = true → gwant ops (S.den G N B e) o = some true) ∧ (allG e gs = false → gwant ops (S.den G N B e) o = some false)
 | .bad => True
def wantV (b : Bool) : AV → Option Bool
 | .rv (.v (.bool c)) => some (c == b)
 | .tuple _ => some false
 | _ => none
def GcOk (G : Glob) (b : Bool) (e : Env) (v : SV) : Gd → Prop
 | .yes => wantV b (v.den G e) = some true
 | .no => wantV b (v.den G e) = some false
 | .on gs => (allG e gs = true → wantV b (v.den G e) = some true) ∧ (allG e gs = false → wantV b (v.den G e) = some false)
 | .bad => True
theorem beqB_t {a b : Bool} (h : a = b) : (a == b) = true := by cases a <;> cases b <;> first | rfl | cases h
theorem beqB_f {a b : Bool} (h : ¬ a = b) : (a == b) = false := by cases a <;> cases b <;> first | rfl | exact absurd rfl h
theorem gdG_ok {l : List Fc} {b : Bool} {e : Env} (hf : ∀ c ∈ l, c.ok e) (g : SV) : GcOk G b e g (match g.rt, knownB g l with
    | some .bool, some c => match decide (c = b) with
      | true => .yes
      | false => .no
    | some .bool, none => .on [(g, b)]
    | _, _ => .bad) := by
  split
  · rename_i c h1 h2
    have hk := knownB_ok h2 hf
    have hd := rt_den (G := G) (e := e) h1
    rw [hk] at hd
    cases hcb : decide (c = b) with
    | true => show wantV b (g.den G e) = some true; rw [hd]; exact congrArg some (beqB_t (of_decide_eq_true hcb))
    | false => show wantV b (g.den G e) = some false; rw [hd]; exact congrArg some (beqB_f (of_decide_eq_false hcb))
  · rename_i h1 h2
    have hd := rt_den (G := G) (e := e) h1
    simp only [GcOk, allG, Bool.and_true]
    rw [hd]
    exact ⟨fun h => congrArg some h, fun h => congrArg some h⟩
  · trivial
theorem gd_t {h : SV} {c : Bool} {v : SV} {e : Env} (hc : h.get1 e .bool = c) : (SV.gd h c v).den G e = v.den G e := by
 simp only [SV.den, hc]; cases c <;> rfl
theorem gd_f {h : SV} {c : Bool} {v : SV} {e : Env} (hc : h.get1 e .bool = !c) : (SV.gd h c v).den G e = .tuple [] := by
 simp only [SV.den, hc]; cases c <;> rfl
theorem gdC_ok {l : List Fc} {b : Bool} {e : Env} (hf : ∀ c ∈ l, c.ok e) : ∀ v : SV, GcOk G b e v (gdC l b v)
 | .gd h c v => by
  have ih := gdC_ok (b := b) hf v
  have nf : h.get1 e .bool ≠ c → wantV b ((SV.gd h c v).den G e) = some false := fun hn => by
   rw [gd_f (by cases hh : h.get1 e .bool <;> cases c <;> first | rfl | exact absurd hh hn)]
   rfl
  simp only [gdC]
  split
  ·cases hg : gdC l b v with
   | yes =>
    rw [hg] at ih
    refine ⟨fun ha => ?_, fun ha => ?_⟩
    ·simp only [allG, Bool.and_true, beq_iff_eq] at ha
     rw [gd_t ha]; exact ih
    ·simp only [allG, Bool.and_true, beq_eq_false_iff_ne] at ha
     exact nf ha
   | no =>
    rw [hg] at ih
    show wantV b _ = some false
    by_cases hh : h.get1 e .bool = c
    ·rw [gd_t hh]; exact ih
    ·exact nf hh
   | on gs =>
    rw [hg] at ih
    refine ⟨fun ha => ?_, fun ha => ?_⟩
    ·simp only [allG, Bool.and_eq_true, beq_iff_eq] at ha
     rw [gd_t ha.1]; exact ih.1 ha.2
    ·by_cases hh : h.get1 e .bool = c
     ·rw [gd_t hh]
      refine ih.2 ?_
      simp only [allG, hh, beq_self_eq_true, Bool.true_and] at ha
      exact ha
     ·exact nf hh
   | bad => trivial
  ·trivial
 | .cs x => by
  unfold gdC
  split
  ·rename_i c heq
   cases heq
   cases hcb : decide (c = b) with
   | true => exact congrArg some (beqB_t (of_decide_eq_true hcb))
   | false => exact congrArg some (beqB_f (of_decide_eq_false hcb))
  ·rename_i heq; cases heq
  ·rename_i heq; cases heq
  ·exact gdG_ok hf _
 | .tp l => rfl
 | .va r i => gdG_ok hf (.va r i)
 | .fd c i k r => gdG_ok hf (.fd c i k r)
 | .ip c i k => gdG_ok hf (.ip c i k)
 | .ag l => gdG_ok hf (.ag l)
 | .px i o => gdG_ok hf (.px i o)
 | .pe i x o => gdG_ok hf (.pe i x o)
 | .sl i => gdG_ok hf (.sl i)
 | .fn f a b => gdG_ok hf (.fn f a b)
 | .rf i => gdG_ok hf (.rf i)
 | .gl g o => gdG_ok hf (.gl g o)
 | .pv i o x n => gdG_ok hf (.pv i o x n)
 | .bs i n => gdG_ok hf (.bs i n)
 | .gp g i o => gdG_ok hf (.gp g i o)
 | .top => gdG_ok hf .top
theorem guard_ok {ops : Array Oper} {o : Oper} {S : SS} {e : Env} (hf : S.fok e) : GdOk G N B ops o S e (guardOf N ops S o) := by
 unfold guardOf
 cases hg : o.guard with
 | none => simp only [GdOk, gwant, hg]
 | some jb =>
  obtain ⟨j, b⟩ := jb
  simp only
  cases hd : gslot ops j with
  | none => trivial
  | some d =>
   simp only
   cases hN : Nat.blt d N with
   | false => trivial
   | true =>
    have hlt : d < N := blt_lt hN
    have hr := res_den (G := G) hf (x := S.at d)
    have hc := gdC_ok (G := G) (b := b) hf ((S.at d).res S.g)
    rw [GcOk.eq_def] at hc
    have key : ∀ q, wantV b (((S.at d).res S.g).den G e) = some q → gwant ops (S.den G N B e) o = some q := fun q h => by
     rw [hr] at h
     simp only [gwant, hg, hd, den_slot, if_pos hlt]
     generalize (S.at d).den G e = v at h
     unfold wantV at h
     split at h
     ·rename_i c
      cases h
      cases b <;> cases c <;> rfl
     ·cases h; rfl
     ·cases h
    simp only
    generalize gdC S.g b ((S.at d).res S.g) = gd at hc
    cases gd with
    | yes => exact key _ hc
    | no => exact key _ hc
    | on gs => exact ⟨fun h => key _ (hc.1 h), fun h => key _ (hc.2 h)⟩
    | bad => trivial
end
end Go.Av
namespace Go.Av
open Go

section
variable {P : Program} {G : Glob} {N B : Nat} {M : List Md} {T : List (Nat × TC)} {inl : Nat → List SV → SS → Tr}
theorem bo_bd {S : SS} {g : SV} {b : Bool} (hb : S.Bd) (hg : g.lt S.k = true) : ({ S with g := .bo g b :: S.g } : SS).Bd :=
 ⟨hb.l, hb.h, by
  show (Fc.lt S.k (.bo g b) && ltG S.k S.g) = true
  rw [hb.g, Bool.and_true]
  exact hg⟩
theorem bo_fok {S : SS} {g : SV} {b : Bool} {e : Env} (hf : S.fok e) (hg : g.get1 e .bool = b) : ({ S with g := .bo g b :: S.g } : SS).fok e := fun c hc => by
 rcases List.mem_cons.1 hc with rfl | hc
 ·exact hg
 ·exact hf c hc
theorem nb {a b : Bool} (h : ¬ a = b) : a = !b := by cases a <;> cases b <;> first | rfl | exact absurd rfl h
theorem run_fork_t {g : SV} {b : Bool} {x y : Tr} {e : Env} (h : g.get1 e .bool = b) : run M (forkT g b x y) e = run M x e := by
 cases b <;> exact run_it h
theorem run_fork_f {g : SV} {b : Bool} {x y : Tr} {e : Env} (h : g.get1 e .bool = !b) : run M (forkT g b x y) e = run M y e := by
 cases b <;> exact run_it h
theorem safe_fork {g : SV} {b : Bool} {x y : Tr} {e : Env} (hs : (forkT g b x y).safe M e) (h : g.get1 e .bool = b) : x.safe M e := by
 cases b with
 | true => exact hs.1 h
 | false => exact hs.2 h
theorem boL_bd {S : SS} : ∀ {gs : List (SV × Bool)}, S.Bd → ltGs S.k gs = true → ({ S with g := boL gs S.g } : SS).Bd
 | [], hb, _ => hb
 | (g, b) :: r, hb, h => by
  simp only [ltGs, Bool.and_eq_true] at h
  exact bo_bd (S := { S with g := boL r S.g }) (b := b) (boL_bd hb h.2) h.1
theorem boL_fok {S : SS} {e : Env} : ∀ {gs : List (SV × Bool)}, S.fok e → allG e gs = true → ({ S with g := boL gs S.g } : SS).fok e
 | [], hf, _ => hf
 | (g, b) :: r, hf, h => by
  simp only [allG, Bool.and_eq_true, beq_iff_eq] at h
  exact bo_fok (S := { S with g := boL r S.g }) (b := b) (boL_fok hf h.2) h.1
theorem gdL_lt {k : Nat} {v : SV} : ∀ {gs : List (SV × Bool)}, ltGs k gs = true → v.lt k = true → (gdL gs v).lt k = true
 | [], _, h => h
 | (g, b) :: r, hg, h => by
  simp only [ltGs, Bool.and_eq_true] at hg
  simp only [gdL, SV.lt, hg.1, gdL_lt hg.2 h, Bool.and_self]
theorem ltGs_mono {k m : Nat} (h : k ≤ m) : ∀ {gs : List (SV × Bool)}, ltGs k gs = true → ltGs m gs = true
 | [], _ => rfl
 | (g, b) :: r, hg => by
  simp only [ltGs, Bool.and_eq_true] at hg ⊢
  exact ⟨lt_mono h hg.1, ltGs_mono h hg.2⟩
theorem allG_agr {k : Nat} {e e' : Env} (h : Agr k e e') : ∀ {gs : List (SV × Bool)}, ltGs k gs = true → allG e' gs = allG e gs
 | [], _ => rfl
 | (g, b) :: r, hg => by
  simp only [ltGs, Bool.and_eq_true] at hg
  simp only [allG, get1_agr h hg.1, allG_agr h hg.2]
theorem gdL_t {v : SV} {e : Env} : ∀ {gs : List (SV × Bool)}, allG e gs = true → (gdL gs v).den G e = v.den G e
 | [], _ => rfl
 | (g, b) :: r, h => by
  simp only [allG, Bool.and_eq_true, beq_iff_eq] at h
  exact (gd_t h.1).trans (gdL_t h.2)
theorem gdL_f {v : SV} {e : Env} : ∀ {gs : List (SV × Bool)}, allG e gs = false → (gdL gs v).den G e = .tuple []
 | [], h => by cases h
 | (g, b) :: r, h => by
  by_cases hg : g.get1 e .bool = b
  ·simp only [allG, hg, beq_self_eq_true, Bool.true_and] at h
   exact (gd_t hg).trans (gdL_f h)
  ·exact gd_f (nb hg)
theorem giL_ok {n : Nd} {e : Env} : ∀ {gs : List (SV × Bool)}, (giL gs n).ok M e → allG e gs = true → n.ok M e
 | [], h, _ => h
 | (g, b) :: r, h, ha => by
  simp only [allG, Bool.and_eq_true, beq_iff_eq] at ha
  exact giL_ok (gs := r) (h ha.1) ha.2
theorem forkL_t {x : Tr} {y : List Fc → Tr} {e : Env} : ∀ {gs : List (SV × Bool)} {l : List Fc}, allG e gs = true → run M (forkL y gs x l) e = run M x e ∧ ((forkL y gs x l).safe M e → x.safe M e)
 | [], _, _ => ⟨rfl, fun h => h⟩
 | (g, b) :: r, l, h => by
  simp only [allG, Bool.and_eq_true, beq_iff_eq] at h
  obtain ⟨h1, h2⟩ := forkL_t (x := x) (y := y) (l := .bo g b :: l) h.2
  exact ⟨(run_fork_t h.1).trans h1, fun hs => h2 (safe_fork hs h.1)⟩
theorem forkL_f {x : Tr} {y : List Fc → Tr} {e : Env} {k : Nat} : ∀ {gs : List (SV × Bool)} {l : List Fc}, allG e gs = false → ltGs k gs = true → ltG k l = true → (∀ c ∈ l, c.ok e) → ∃ l', run M (forkL y gs x l) e = run M (y l') e ∧ ltG k l' = true ∧ ∀ c ∈ l', c.ok e
 | [], _, h, _, _, _ => by cases h
 | (g, b) :: r, l, h, hg, hl, hc => by
  simp only [ltGs, Bool.and_eq_true] at hg
  have hl' : ∀ b, ltG k (.bo g b :: l) = true := fun b => by
   show (Fc.lt k (.bo g b) && ltG k l) = true
   rw [hl, Bool.and_true]; exact hg.1
  by_cases hgb : g.get1 e .bool = b
  ·simp only [allG, hgb, beq_self_eq_true, Bool.true_and] at h
   obtain ⟨l', h1, h2, h3⟩ := forkL_f (x := x) (y := y) (k := k) (gs := r) (l := .bo g b :: l) h hg.2 (hl' b) fun c hm => by
    rcases List.mem_cons.1 hm with rfl | hm
    ·exact hgb
    ·exact hc c hm
   exact ⟨l', (run_fork_t hgb).trans h1, h2, h3⟩
  ·refine ⟨.bo g (!b) :: l, run_fork_f (nb hgb), hl' _, fun c hm => ?_⟩
   rcases List.mem_cons.1 hm with rfl | hm
   ·exact nb hgb
   ·exact hc c hm
theorem skipT_ok {S : SS} {dst : Option Nat} {l : List Fc} {e : Env} (hb : S.Bd) (hl : ltG S.k l = true) (hc : ∀ c ∈ l, c.ok e) :
    ∃ S1 : SS, skipT S dst l = .lf .nrm S1 ∧ S1.Bd ∧ S1.fok e ∧ S.k ≤ S1.k ∧ S1.den G N B e = (S.den G N B e).put dst (.tuple []) :=
  ⟨_, rfl, put_bd ⟨hb.l, hb.h, hl⟩ rfl, put_fok hc, by rw [put_k]; exact Nat.le_refl _, by rw [den_put]; rfl⟩
theorem rgn_ok (hI : InlOk P G M inl) {ops : Array Oper} : ∀ (l : List Oper) {S : SS} {e : Env} {Q : Exit → St → Prop}, S.Bd → S.fok e → (rgn P N B T inl ops l S).safe M e → (∀ ex st, Post G N B M (rgn P N B T inl ops l S) e S.k ex st → Q ex st) → AOps P G ops Q l (S.den G N B e)
 | [], S, e, Q, hb, hf, _, hQ => AOps.nil (hQ _ _ ⟨.nrm, S, e, rfl, trivial, Le.refl _, hb, hf, Agr.refl _ _, Nat.le_refl _⟩)
 | o :: r, S, e, Q, hb, hf, hs, hQ => by
  have hg := guard_ok (G := G) (N := N) (B := B) (ops := ops) (o := o) hf
  have hs' := hs
  unfold rgn at hs'
  cases hgd : guardOf N ops S o with
  | yes =>
   rw [hgd] at hg hs'
   have hT : rgn P N B T inl ops (o :: r) S = exec P N B T inl o S (rgn P N B T inl ops r) := by rw [rgn, hgd]
   refine exec_ok hI hb hf hg hs' fun S' e' h1 h2 h3 h4 h5 h6 => rgn_ok hI r h1 h2 h5 fun ex st hp => hQ ex st (hp.sub ?_ h3 h4)
   rw [hT, h6]
  | no =>
   rw [hgd] at hg hs'
   have hT : rgn P N B T inl ops (o :: r) S = rgn P N B T inl ops r (S.put o.dst (.tp [])) := by rw [rgn, hgd]
   refine AOps.pass hg ?_
   have hd : (S.den G N B e).put o.dst (.tuple []) = (S.put o.dst (.tp [])).den G N B e := by rw [den_put]; rfl
   rw [hd]
   refine rgn_ok hI r (put_bd hb rfl) (put_fok hf) hs' fun ex st hp => hQ ex st (hp.sub (by rw [hT]) (Agr.refl _ _) (by rw [put_k]; exact Nat.le_refl _))
  | on gs =>
   rw [hgd] at hg hs'
   simp only at hs'
   obtain ⟨g1, g2⟩ := hg
   split at hs'
   ·rename_i hgl
    split at hs'
    ·rename_i q hv
     split at hs'
     ·rename_i hc
      have hT : rgn P N B T inl ops (o :: r) S = emit S.k q.xs (q.ns.map (giL gs)) (rgn P N B T inl ops r ((S.adv S.k q.xs).put o.dst (gdL gs q.v))) := by rw [rgn, hgd]; simp only [hgl, hv, hc]
      simp only [Bool.and_eq_true] at hc
      obtain ⟨n1, n2⟩ := emit_safe hs'
      obtain ⟨a1, a2, a3⟩ := adv_ok (M := M) (G := G) (N := N) (B := B) hb hf hc.1
      have hag : Agr S.k e (envX M e S.k q.xs) := envX_agr (Nat.le_refl _)
      have hge : allG (envX M e S.k q.xs) gs = allG e gs := allG_agr hag hgl
      have hk : S.k ≤ S.k + q.xs.length := Nat.le_add_right _ _
      have hvl : (gdL gs q.v).lt (S.k + q.xs.length) = true := gdL_lt (ltGs_mono hk hgl) hc.2
      have hbd' : ((S.adv S.k q.xs).put o.dst (gdL gs q.v)).Bd := put_bd a1 hvl
      have hrec := rgn_ok hI (ops := ops) r (Q := Q) hbd' (put_fok a2) n2 fun ex st hp => hQ ex st (hp.sub (by rw [hT, emit_run]) hag (by rw [put_k]; exact hk))
      rw [den_put, a3] at hrec
      cases hgb : allG e gs with
      | true =>
       have hf1 := boL_fok hf hgb
       have hb1 := boL_bd hb hgl
       have hst := vop_ok (G := G) (B := B) (M := M) hv (envX M e S.k q.xs) (fok_keep hag hb1.g hf1) (envX_at hc.1) fun n hn => giL_ok (n1 (giL gs n) (List.mem_map.2 ⟨n, hn, rfl⟩)) (hge.trans hgb)
       have hd1 : ({ S with g := boL gs S.g } : SS).den G N B (envX M e S.k q.xs) = S.den G N B e := den_keep (S := { S with g := boL gs S.g }) hag hb1
       rw [hd1] at hst
       refine AOps.step (g1 hgb) hst.step ?_
       rw [gdL_t (hge.trans hgb)] at hrec
       exact hrec
      | false =>
       refine AOps.pass (g2 hgb) ?_
       rw [gdL_f (hge.trans hgb)] at hrec
       exact hrec
     ·exact hs'.elim
    ·rename_i hv
     have hT : rgn P N B T inl ops (o :: r) S = seqG N S o.dst gs (forkL (skipT S o.dst) gs (exec P N B T inl o { S with g := boL gs S.g } (.lf .nrm)) S.g) (rgn P N B T inl ops r) := by rw [rgn, hgd]; simp only [hv, hgl]
     obtain ⟨t1, _, t3⟩ := seqG_ok (G := G) (B := B) hb hf hs'
     have fin : ∀ (S1 : SS) (e1 : Env), run M (forkL (skipT S o.dst) gs (exec P N B T inl o { S with g := boL gs S.g } (.lf .nrm)) S.g) e = some (.nrm, S1, e1) → S1.Bd → S1.fok e1 → Agr S.k e e1 → S.k ≤ S1.k → AOps P G ops Q r (S1.den G N B e1) := fun S1 e1 hr h1 h2 h3 h4 => by
      obtain ⟨S2, e2, s1, s2, s3, s4, s5, s6, s7⟩ := t3 S1 e1 hr h1 h2 h3 h4
      exact AOps.le s1 (rgn_ok hI r s2 s3 s6 fun ex st hp => hQ ex st (hp.sub (by rw [hT, s7]) s4 s5))
     cases hgb : allG e gs with
     | false =>
      refine AOps.pass (g2 hgb) ?_
      obtain ⟨l', q1, q2, q3⟩ := forkL_f (M := M) (x := exec P N B T inl o { S with g := boL gs S.g } (.lf .nrm)) (y := skipT S o.dst) (l := S.g) hgb hgl hb.g hf
      obtain ⟨S1, p1, p2, p3, p4, p5⟩ := skipT_ok (G := G) (N := N) (B := B) (dst := o.dst) hb q2 q3
      rw [← p5]
      exact fin S1 e (by rw [q1, p1]; rfl) p2 p3 (Agr.refl _ _) p4
     | true =>
      have hf1 := boL_fok hf hgb
      have hb1 := boL_bd hb hgl
      obtain ⟨f1, f2⟩ := forkL_t (M := M) (x := exec P N B T inl o { S with g := boL gs S.g } (.lf .nrm)) (y := skipT S o.dst) (l := S.g) hgb
      refine exec_ok hI (S := { S with g := boL gs S.g }) hb1 hf1 (g1 hgb) (f2 t1) fun S' e' h1 h2 h3 h4 _ h6 => fin S' e' ?_ h1 h2 h3 h4
      exact f1.trans h6
   ·exact hs'.elim
  | bad => rw [hgd] at hs'; exact hs'.elim
end
end Go.Av
namespace Go.Av
open Go

def rgB (i : Nat) (y : SV) : List Fc → Bool
 | [] => false
 | .rg j b :: r => (Nat.beq j i && eqS b y) || rgB i y r
 | _ :: r => rgB i y r
def lssB (j : Nat) (all : List Fc) : List Fc → Option Bool
 | [] => none
 | .d2 i (.cm .lss .i64) x y :: r => match Nat.beq i j with
  | true => match eqS x y with
   | true => some false
   | false => match x with
    | .va (.int .i64) m => match rgB m y all && (match y.rt with | some (.int .i64) => true | _ => false) with
     | true => some true
     | false => none
    | _ => none
  | false => lssB j all r
 | _ :: r => lssB j all r
def knownG (g : SV) (l : List Fc) : Option Bool :=
 match knownB g l with
 | some b => some b
 | none => match g with
  | .va .bool j => lssB j l l
  | _ => none
def ntOf (i : Nat) : List Fc → Option SV
 | [] => none
 | .d1 j .nt x :: r => match Nat.beq j i with
  | true => match x.rt with
   | some .bool => some x
   | _ => none
  | false => ntOf i r
 | _ :: r => ntOf i r
def SS.bo (S : SS) (v : SV) (b : Bool) : SS :=
 match v with
 | .va .bool i => match ntOf i S.g with
  | some x => { S with g := .bo x (!b) :: .bo (.va .bool i) b :: S.g }
  | none => { S with g := .bo (.va .bool i) b :: S.g }
 | v => { S with g := .bo v b :: S.g }
def condT (N : Nat) (S : SS) (x : Operand) (f g : SS → Tr) : Tr :=
 match S.opv N x with
 | .cs (.bool true) => f S
 | .cs (.bool false) => g S
 | v => match v.rt with
  | some .bool => match knownG v S.g with
   | some true => f S
   | some false => g S
   | none => .it v (f (S.bo v true)) (g (S.bo v false))
  | _ => .bad 38
def comp (P : Program) (N B : Nat) (T : List (Nat × TC)) (inl : Nat → List SV → SS → Tr) (L : (SS → Tr) → Nat → SS → Tr) (D : Array Oper → SS → Tr) : Code → Nat → SS → Tr
 | .skip, _, S => .lf .nrm S
 | .ret, _, S => .lf .ret S
 | .exit id, _, S => .lf (.ext id) S
 | .region _ ops draw, _, S => match draw with
  | true => D ops S
  | false => rgn P N B T inl ops ops.toList S
 | .cond x a b, cur, S => condT N S x (comp P N B T inl L D a cur) (comp P N B T inl L D b cur)
 | .block id c, _, S => (comp P N B T inl L D c id S).rel (unE id)
 | .seq a b, cur, S => seqT N S (comp P N B T inl L D a cur S) (comp P N B T inl L D b cur)
 | .loop c, cur, S => L (comp P N B T inl L D c cur) cur S
 | _, _, _ => .bad 6

section
variable {P : Program} {G : Glob} {N B : Nat} {M : List Md} {T : List (Nat × TC)} {inl : Nat → List SV → SS → Tr} {L : (SS → Tr) → Nat → SS → Tr} {D : Array Oper → SS → Tr}
theorem rgB_ok {i : Nat} {y : SV} {e : Env} : ∀ {l : List Fc}, rgB i y l = true → (∀ c ∈ l, c.ok e) → 0 ≤ intD (Env.at e i) ∧ intD (Env.at e i) < intD (y.dyn e)
 | .rg j b :: r, h, hc => by
  simp only [rgB, Bool.or_eq_true, Bool.and_eq_true] at h
  rcases h with ⟨h1, h2⟩ | h
  ·rw [← Nat.eq_of_beq_eq_true h1, ← eqS_eq h2]
   exact hc (.rg j b) (by simp)
  ·exact rgB_ok h fun c hm => hc c (by simp [hm])
 | .d1 _ _ _ :: r, h, hc => rgB_ok (l := r) h fun c hm => hc c (by simp [hm])
 | .d2 _ _ _ _ :: r, h, hc => rgB_ok (l := r) h fun c hm => hc c (by simp [hm])
 | .bo _ _ :: r, h, hc => rgB_ok (l := r) h fun c hm => hc c (by simp [hm])
theorem intD_as (d : Dyn) : (d.as (.int .i64) : Int) = intD d ∨ (d.as (.int .i64) : Int) = 0 := by
 obtain ⟨r, v⟩ := d
 by_cases h : r = .int .i64
 ·subst h
  exact .inl (as_mk _ _)
 ·refine .inr ?_
  unfold Dyn.as
  split
  ·rename_i h' _; exact absurd h' h
  ·rfl
theorem lssB_ok {j : Nat} {e : Env} {b : Bool} {all : List Fc} (ha : ∀ c ∈ all, c.ok e) : ∀ {l : List Fc}, lssB j all l = some b → (∀ c ∈ l, c.ok e) → (SV.va .bool j).get1 e .bool = b
 | .d2 i f x y :: r, h, hc => by
  have h0 := hc (.d2 i f x y) (by simp)
  have hr : ∀ {b}, lssB j all r = some b → (SV.va .bool j).get1 e .bool = b := fun h => lssB_ok ha h fun c hm => hc c (by simp [hm])
  unfold lssB at h
  split at h
  ·cases h
  ·rename_i i' x' y' r' heq
   cases heq
   split at h
   ·rename_i hij
    have hij := Nat.eq_of_beq_eq_true hij
    subst hij
    simp only [Fc.ok] at h0
    have hv : (SV.va .bool i).get1 e .bool = cmI .lss (x.get1 e (.int .i64)) (y.get1 e (.int .i64)) := by
     simp only [SV.get1, SV.dyn1, SV.dyn, as_mk, h0]
     rfl
    rw [hv]
    split at h
    ·rename_i he
     cases h
     rw [eqS_eq he]
     exact decide_eq_false (Int.lt_irrefl _)
    ·split at h
     ·rename_i m _
      split at h
      ·rename_i hk
       cases h
       simp only [Bool.and_eq_true] at hk
       have h1 := rgB_ok hk.1 ha
       have hy : y.rt = some (.int .i64) := by
        have := hk.2
        split at this
        ·assumption
        ·cases this
       rw [rt_intD hy] at h1
       have hx : (SV.va (.int .i64) m).get1 e (.int .i64) = (Env.at e m).as (.int .i64) := by simp only [SV.get1, SV.dyn1, SV.dyn, as_mk]
       rw [hx]
       refine decide_eq_true ?_
       have h2 := h1.2
       rcases intD_as (Env.at e m) with q | q
       ·rw [q]; exact h2
       ·rw [q]; exact Int.lt_of_le_of_lt h1.1 h2
      ·cases h
     ·cases h
   ·exact hr h
  ·rename_i heq
   cases heq
   exact hr h
 | .d1 _ _ _ :: r, h, hc => lssB_ok ha (l := r) h fun c hm => hc c (by simp [hm])
 | .rg _ _ :: r, h, hc => lssB_ok ha (l := r) h fun c hm => hc c (by simp [hm])
 | .bo _ _ :: r, h, hc => lssB_ok ha (l := r) h fun c hm => hc c (by simp [hm])
theorem knownG_ok {e : Env} {g : SV} {b : Bool} {l : List Fc} (h : knownG g l = some b) (hc : ∀ c ∈ l, c.ok e) : g.get1 e .bool = b := by
 unfold knownG at h
 split at h
 ·rename_i hk; cases h; exact knownB_ok hk hc
 ·split at h
  ·exact lssB_ok hc h hc
  ·cases h
def CodeOk (P : Program) (G : Glob) (N B : Nat) (M : List Md) (c : Code) (f : SS → Tr) : Prop :=
 ∀ (S : SS) (e : Env), S.Bd → S.fok e → (f S).safe M e → AWp P G c (Post G N B M (f S) e S.k) (S.den G N B e)
theorem ntOf_ok {i : Nat} {x : SV} {e : Env} {k : Nat} : ∀ {l : List Fc}, ntOf i l = some x → (∀ c ∈ l, c.ok e) → ltG k l = true → (SV.va .bool i).get1 e .bool = !(x.get1 e .bool) ∧ x.lt k = true
 | [], h, _, _ => by cases h
 | c :: r, h, hc, hl => by
  have hc' : ∀ c ∈ r, c.ok e := fun c hm => hc c (List.mem_cons_of_mem _ hm)
  have hl' : c.lt k = true ∧ ltG k r = true := by simpa only [ltG, Bool.and_eq_true] using hl
  unfold ntOf at h
  split at h
  ·rename_i heq; cases heq
  ·rename_i j y r' heq
   cases heq
   split at h
   ·rename_i hj
    have hj := Nat.eq_of_beq_eq_true hj
    subst hj
    split at h
    ·cases h
     have h0 : Env.at e j = ⟨F1.nt.c, F1.nt.den (x.get1 e F1.nt.a)⟩ := hc _ (List.mem_cons_self ..)
     have h1 := hl'.1
     simp only [Fc.lt, Bool.and_eq_true] at h1
     refine ⟨?_, h1.2⟩
     simp only [SV.get1, SV.dyn1, SV.dyn, h0, as_mk]
     rfl
    ·cases h
   ·exact ntOf_ok h hc' hl'.2
  ·rename_i heq
   cases heq
   exact ntOf_ok h hc' hl'.2
theorem boS_ok {S : SS} {v : SV} {b : Bool} {e : Env} (hb : S.Bd) (hf : S.fok e) (hl : v.lt S.k = true) (hv : v.get1 e .bool = b) : (S.bo v b).Bd ∧ (S.bo v b).fok e ∧ (S.bo v b).k = S.k ∧ (S.bo v b).den G N B e = S.den G N B e := by
 unfold SS.bo
 split
 ·rename_i i
  split
  ·rename_i x hx
   obtain ⟨h1, h2⟩ := ntOf_ok hx hf hb.g
   rw [hv] at h1
   have h3 : x.get1 e .bool = !b := by rw [h1]; cases x.get1 e .bool <;> rfl
   have a1 := bo_bd (b := b) hb hl
   have a2 := bo_fok hf hv
   exact ⟨bo_bd (S := { S with g := .bo (.va .bool i) b :: S.g }) (b := !b) a1 h2, bo_fok (S := { S with g := .bo (.va .bool i) b :: S.g }) a2 h3, rfl, rfl⟩
  ·exact ⟨bo_bd hb hl, bo_fok hf hv, rfl, rfl⟩
 ·exact ⟨bo_bd hb hl, bo_fok hf hv, rfl, rfl⟩
theorem condT_ok {x : Operand} {a b : Code} {f g : SS → Tr} (hf : CodeOk P G N B M a f) (hg : CodeOk P G N B M b g) : CodeOk P G N B M (.cond x a b) (fun S => condT N S x f g) := by
 intro S e hb hfk hs
 have hx := opv_den (G := G) (N := N) (B := B) hfk x
 have hlt := opv_lt (N := N) hb x
 simp only at hs ⊢
 unfold condT at hs ⊢
 generalize S.opv N x = v at hs hx hlt ⊢
 split at hs
 ·exact AWp.cond_t hx (hf S e hb hfk hs)
 ·exact AWp.cond_f hx (hg S e hb hfk hs)
 ·rename_i h1 h2
  split at hs
  ·rename_i hr
   have hd := rt_den (G := G) (e := e) hr
   rw [← hx] at hd
   have hd := hd.trans (show _ = AV.rv (.v (.bool _)) from rfl)
   split at hs
   ·rename_i hk
    rw [knownG_ok hk hfk] at hd
    exact AWp.cond_t hd (hf S e hb hfk hs)
   ·rename_i hk
    rw [knownG_ok hk hfk] at hd
    exact AWp.cond_f hd (hg S e hb hfk hs)
   ·refine AWp.cond hd (fun ht => ?_) (fun ht => ?_)
    ·obtain ⟨q1, q2, q3, q4⟩ := boS_ok (G := G) (N := N) (B := B) hb hfk hlt ht
     have := hf _ e q1 q2 (hs.1 ht)
     rw [q4] at this
     refine AWp.mono this fun ex st hp => hp.sub ?_ (Agr.refl _ _) (Nat.le_of_eq q3.symm)
     rw [run_it ht]
    ·obtain ⟨q1, q2, q3, q4⟩ := boS_ok (G := G) (N := N) (B := B) hb hfk hlt ht
     have := hg _ e q1 q2 (hs.2 ht)
     rw [q4] at this
     refine AWp.mono this fun ex st hp => hp.sub ?_ (Agr.refl _ _) (Nat.le_of_eq q3.symm)
     rw [run_it ht]
  ·exact hs.elim
theorem block_ok {id : Nat} {c : Code} {f : SS → Tr} (hf : CodeOk P G N B M c f) : CodeOk P G N B M (.block id c) (fun S => (f S).rel (unE id)) := by
 intro S e hb hfk hs
 have ho := okR_un (f S) id
 refine AWp.block (AWp.mono (hf S e hb hfk ((safe_rel ho).1 hs)) fun ex st hp => ?_)
 obtain ⟨x, S', e', h1, h2, h3, h4, h5, h6, h7⟩ := hp
 have hr : run M ((f S).rel (unE id)) e = some (unE id x, S', e') := by rw [run_rel ho, h1]; rfl
 cases x with
 | nrm => cases ex <;> first | exact ⟨_, S', e', hr, trivial, h3, h4, h5, h6, h7⟩ | exact h2.elim
 | ret => cases ex <;> first | exact ⟨_, S', e', hr, trivial, h3, h4, h5, h6, h7⟩ | exact h2.elim
 | jm n => exact (by cases ex <;> exact h2.elim)
 | ext n =>
  cases ex with
  | exit m =>
   have h2 : n = m := h2
   subst h2
   show (bif Nat.beq n id then _ else _)
   cases hb : Nat.beq n id with
   | true => exact ⟨.nrm, S', e', by rw [hr]; simp only [unE, hb], trivial, h3, h4, h5, h6, h7⟩
   | false => exact ⟨.ext n, S', e', by rw [hr]; simp only [unE, hb], rfl, h3, h4, h5, h6, h7⟩
  | _ => exact h2.elim
theorem seqC_ok {a b : Code} {f g : SS → Tr} (hf : CodeOk P G N B M a f) (hg : CodeOk P G N B M b g) : CodeOk P G N B M (.seq a b) (fun S => seqT N S (f S) g) := by
 intro S e hb hfk hs
 obtain ⟨t1, t2, t3⟩ := seqT_ok (G := G) (B := B) hb hfk hs
 refine AWp.seq (AWp.mono (hf S e hb hfk t1) fun ex st hp => ?_)
 obtain ⟨x, S', e', h1, h2, h3, h4, h5, h6, h7⟩ := hp
 have other : x ≠ .nrm → ex ≠ .normal → Post G N B M (seqT N S (f S) g) e S.k ex st := fun hne _ => ⟨x, S', e', t2 x S' e' h1 hne (exM_J h2), h2, h3, h4, h5, h6, h7⟩
 cases x with
 | nrm =>
  cases ex with
  | normal =>
   obtain ⟨S2, e2, s1, s2, s3, s4, s5, s6, s7⟩ := t3 S' e' h1 h4 h5 h6 h7
   exact AWp.le h3 (AWp.le s1 (AWp.mono (hg S2 e2 s2 s3 s6) fun ex st hp => hp.sub s7 s4 s5))
  | _ => exact h2.elim
 | ret => cases ex <;> first | exact other (by simp) (by simp) | exact h2.elim
 | ext n => cases ex <;> first | exact other (by simp) (by simp) | exact h2.elim
 | jm n => cases ex <;> exact h2.elim
theorem leaf_ok {c : Code} {x : Ek} {ex : Exit} (h : exM x ex) (k : ∀ {Q : Exit → St → Prop} {s : St}, Q ex s → AWp P G c Q s) : CodeOk P G N B M c (fun S => .lf x S) :=
 fun S e hb hf _ => k ⟨x, S, e, rfl, h, Le.refl _, hb, hf, Agr.refl _ _, Nat.le_refl _⟩
def LoopOk (P : Program) (G : Glob) (N B : Nat) (M : List Md) (L : (SS → Tr) → Nat → SS → Tr) : Prop := ∀ c f id, CodeOk P G N B M c f → CodeOk P G N B M (.loop c) (L f id)
def DrawOk (P : Program) (G : Glob) (N B : Nat) (M : List Md) (D : Array Oper → SS → Tr) : Prop := ∀ id ops, CodeOk P G N B M (.region id ops true) (D ops)
theorem comp_ok (hI : InlOk P G M inl) (hL : LoopOk P G N B M L) (hD : DrawOk P G N B M D) : ∀ (c : Code) (cur : Nat), CodeOk P G N B M c (comp P N B T inl L D c cur)
 | .skip, _ => leaf_ok (ex := .normal) trivial AWp.skip
 | .ret, _ => leaf_ok (ex := .ret) trivial AWp.ret
 | .exit id, _ => leaf_ok (ex := .exit id) rfl AWp.exit
 | .region id ops draw, _ => by
  cases draw with
  | true => exact hD id ops
  | false =>
   intro S e hb hf hs
   have e0 : ops = ops.toList.toArray := by simp
   rw [e0]
   refine AWp.region ?_
   rw [← e0]
   exact rgn_ok hI ops.toList hb hf hs fun _ _ h => h
 | .cond x a b, cur => condT_ok (comp_ok hI hL hD a cur) (comp_ok hI hL hD b cur)
 | .block id c, _ => block_ok (comp_ok hI hL hD c id)
 | .seq a b, cur => seqC_ok (comp_ok hI hL hD a cur) (comp_ok hI hL hD b cur)
 | .loop c, cur => hL c _ cur (comp_ok hI hL hD c cur)
 | .rangeFunc _ _ _ _, _ => fun _ _ _ _ h => h.elim
 | .scope _, _ => fun _ _ _ _ h => h.elim
 | .label _, _ => fun _ _ _ _ h => h.elim
 | .goto _, _ => fun _ _ _ _ h => h.elim
 | .refuse _, _ => fun _ _ _ _ h => h.elim
end
end Go.Av
namespace Go.Av
open Go

def numT : Nat → List SV → List (Nat × SV)
 | _, [] => []
 | i, x :: r => (i, x) :: numT (i + 1) r
def resS (P : Program) (N : Nat) (S : SS) : List ResultVar → Option (List SV)
 | [] => some []
 | .tmp t :: r => match resS P N S r with
  | some l => some (S.opv N (.tmp t) :: l)
  | none => none
 | .cell p t :: r => match resS P N S r, cellsAt S (S.opv N (.tmp p)) with
  | some l, some cs => match takeT P t cs with
   | some v => some (v :: l)
   | none => none
  | _, _ => none
def resV (P : Program) (fn : Func) (N : Nat) (S : SS) : Option SV :=
 match resS P N S fn.results.toList with
 | some [x] => some x
 | some l => some (.tp l)
 | none => none
def retE : Ek → Ek
 | .ret => .nrm
 | x => x
def isNR : Ek → Bool
 | .nrm => true
 | .ret => true
 | _ => false
def resF (P : Program) (fn : Func) (N : Nat) (S : SS) : Tr :=
 match resV P fn N S with
 | some v => match v.lt S.k with
  | true => .lf .nrm { S with l := Tri.put .emp 0 v }
  | false => .bad 44
 | none => .bad 43
structure Hd where
 L : Nat → Nat → (Nat → List SV → SS → Tr) → (SS → Tr) → Nat → SS → Tr
 D : Nat → Nat → (Nat → List SV → SS → Tr) → Array Oper → SS → Tr
def startS (as : List SV) (S : SS) : SS := { S with l := triOf (numT 0 as) }
def codeT (P : Program) (H : Hd) (T : List (Nat × TC)) (inl : Nat → List SV → SS → Tr) (c : Code) (N : Nat) (as : List SV) (S : SS) : Tr :=
 comp P N S.n T inl (H.L N S.n inl) (H.D N S.n inl) c 0 (startS as S)
def orN (n : Nat) (m : Nat) : Nat :=
 match n with
 | 0 => m
 | k + 1 => k + 1
def Tr.bad1 : Tr → Nat
 | .lf _ _ => 0
 | .lt _ _ t => t.bad1
 | .nd _ t => t.bad1
 | .it _ a b => orN a.bad1 b.bad1
 | .jn _ a _ k => orN a.bad1 k.bad1
 | .lp _ _ _ _ _ a k => orN a.bad1 k.bad1
 | .lg _ _ _ a k => orN a.bad1 k.bad1
 | .bad n => n
def badN (f n : Nat) : Nat :=
 match Nat.ble 1000 n with
 | true => n
 | false => f * 1000 + n
def finT (P : Program) (f : Nat) (fn : Func) (N : Nat) (t : Tr) : Tr :=
 match t.lbl isNR with
 | true => (t.rel retE).graft (resF P fn N) none
 | false => .bad (badN f t.bad1)
def bodyT (P : Program) (H : Hd) (T : List (Nat × TC)) (inl : Nat → List SV → SS → Tr) (f : Nat) (as : List SV) (S : SS) : Tr :=
 match P.funcs[f]? with
 | some fn => match fn.body with
  | some c => finT P f fn (as.length + (fn.ntmps - as.length)) (codeT P H T inl c (as.length + (fn.ntmps - as.length)) as S)
  | none => .bad 41
 | none => .bad 42
section
variable {P : Program} {G : Glob} {N B : Nat} {M : List Md} {T : List (Nat × TC)} {inl : Nat → List SV → SS → Tr} {H : Hd}
def HdOk (P : Program) (G : Glob) (M : List Md) (H : Hd) : Prop := ∀ (inl : Nat → List SV → SS → Tr), InlOk P G M inl → ∀ N B, LoopOk P G N B M (H.L N B inl) ∧ DrawOk P G N B M (H.D N B inl)
theorem takeT_den {t : TypeId} {l : List SV} {v : SV} {e : Env} (h : takeT P t l = some v) :
    (∃ n, aggSize P t = some n ∧ n ≤ l.length ∧ 0 < n ∧ v.den G e = .agg ((SV.denL G e l).take n)) ∨ (aggSize P t = none ∧ scalar P t = true ∧ ∃ r, l = v :: r) := by
  unfold takeT at h
  split at h
  · rename_i n hn
    split at h
    · rename_i hb
      simp only [Bool.and_eq_true] at hb
      cases h
      refine .inl ⟨n, hn, Nat.le_of_ble_eq_true hb.1, Nat.le_of_ble_eq_true hb.2, ?_⟩
      simp only [SV.den, denL_map, List.map_take]
    · cases h
  · rename_i hn
    split at h
    · rename_i hs
      cases h
      exact .inr ⟨hn, hs, _, rfl⟩
    · cases h
theorem resS_den {S : SS} {e : Env} (hf : S.fok e) : ∀ {l : List ResultVar} {vs : List SV}, resS P N S l = some vs → ares P (S.den G N B e) l = some (SV.denL G e vs)
 | [], vs, h => by cases h; rfl
 | .tmp t :: r, vs, h => by
  simp only [resS] at h
  split at h
  ·rename_i l hl
   cases h
   have := opv_den (G := G) (N := N) (B := B) hf (.tmp t)
   simp only [ares, resS_den hf hl, SV.denL, ← this]
   rfl
  ·cases h
 | .cell p t :: r, vs, h => by
  simp only [resS] at h
  split at h
  ·rename_i l cs hl hc
   split at h
   ·rename_i v hv
    cases h
    have h1 := opv_den (G := G) (N := N) (B := B) hf (.tmp p)
    have h2 := cellsAt_den (G := G) (N := N) (B := B) (e := e) hc
    rw [← h1] at h2
    have h2 : acells (S.den G N B e).heap ((S.den G N B e).slots.getD p .top) = some (SV.denL G e cs) := h2
    simp only [ares, resS_den hf hl, h2, SV.denL]
    rcases takeT_den (G := G) (e := e) hv with ⟨n, g1, g2, g3, g4⟩ | ⟨g1, g2, r', g3⟩
    ·simp only [g1, g4]
     rw [if_pos ⟨by rw [denL_len]; exact g2, g3⟩]
    ·subst g3
     simp only [g1, g2, if_true, SV.denL]
   ·cases h
  ·cases h
theorem resV_den {fn : Func} {S : SS} {e : Env} {v : SV} (hf : S.fok e) (h : resV P fn N S = some v) : aresult P fn (S.den G N B e) = some (v.den G e) := by
 unfold resV at h
 unfold aresult
 split at h
 ·rename_i x hx
  cases h
  rw [resS_den hf hx]
  rfl
 ·rename_i l hne hl
  cases h
  rw [resS_den hf hl]
  match l with
  | [] => rfl
  | [x] => exact absurd rfl (hne x)
  | x :: y :: l => rfl
 ·cases h
theorem okR_ret (t : Tr) : t.okR retE := okR_of (t.lvl + 1) (Nat.lt_succ_self _) (fun n _ x h => by cases x <;> first | rfl | exact h) (fun n x h => by cases x <;> first | rfl | exact h)
theorem numT_get : ∀ {l : List SV} {i j : Nat}, (triOf (numT i l)).get j = if j < i then none else l[j - i]?
 | [], i, j => by simp only [numT, triOf]; split <;> simp [Tri.get]
 | x :: r, i, j => by
  simp only [numT, triOf, Tri.get_put, numT_get (l := r)]
  by_cases h : i = j
  ·subst h; simp
  ·rw [if_neg h]
   by_cases h2 : j < i
   ·rw [if_pos h2, if_pos (by omega)]
   ·rw [if_neg h2, if_neg (by omega), show j - i = (j - (i + 1)) + 1 by omega, List.getElem?_cons_succ]
theorem start_den {as : List SV} {S : SS} {e : Env} {k : Nat} : (startS as S).den G (as.length + k) S.n e = ⟨SV.denL G e as ++ List.replicate k .top, denH G e S.h, S.n, S.n⟩ := by
 simp only [SS.den, startS, St.mk.injEq, and_true, true_and]
 apply List.ext_getElem?
 intro j
 rw [tabT_get, Nat.zero_add, numT_get, if_neg (Nat.not_lt_zero _), Nat.sub_zero, denL_map, List.getElem?_append, List.getElem?_replicate, List.length_map]
 by_cases h : j < as.length
 ·rw [if_pos (by omega), if_pos h, List.getElem?_map, List.getElem?_eq_getElem h]
  rfl
 ·rw [if_neg h]
  by_cases h2 : j < as.length + k
  ·rw [if_pos h2, if_pos (by omega), List.getElem?_eq_none (by omega)]
  ·rw [if_neg h2, if_neg (by omega)]
theorem start_bd {as : List SV} {S : SS} (hb : S.Bd) (hl : SV.ltL S.k as = true) : (startS as S).Bd := by
 refine ⟨fun i x hx => ?_, hb.h, hb.g⟩
 simp only [startS, numT_get, Nat.not_lt_zero, if_false, Nat.sub_zero] at hx
 have hm := List.mem_of_getElem? hx
 clear hx
 induction as with
 | nil => cases hm
 | cons y r ih =>
  simp only [SV.ltL, Bool.and_eq_true] at hl
  rcases List.mem_cons.1 hm with rfl | hm
  ·exact hl.1
  ·exact ih hl.2 hm
theorem AWp.unle {c : Code} {Q : Exit → St → Prop} {s : St} (h : AWp P G c (fun e st => ∃ st', Le st st' ∧ Q e st') s) : AWp P G c Q s := fun E a w hr =>
 wp_mono (h E a w hr) fun _ a' w' ⟨st, ⟨st', hl, hq⟩, h2⟩ => ⟨st', hq, hl E G a' w' h2⟩
theorem body_ok (hH : HdOk P G M H) (hI : InlOk P G M inl) : InlOk P G M (bodyT P H T inl) := by
 intro f as S e hb hl hf hs
 unfold bodyT at hs ⊢
 split at hs
 ·rename_i fn hfn
  split at hs
  ·rename_i c hc
   generalize hN : as.length + (fn.ntmps - as.length) = N at hs
   generalize ht : codeT P H T inl c N as S = t at hs
   unfold finT at hs ⊢
   split at hs
   ·rename_i hlb
    obtain ⟨g1, g2, g3⟩ := graft_ok (t.rel retE) none hs
    have hts : t.safe M e := (safe_rel (okR_ret t)).1 g1
    have hcode := comp_ok (T := T) (B := S.n) (N := N) hI (hH inl hI N S.n).1 (hH inl hI N S.n).2 c 0 (startS as S) e (start_bd hb hl) hf (by
     unfold codeT at ht; rw [ht]; exact hts)
    have ht' : comp P N S.n T inl (H.L N S.n inl) (H.D N S.n inl) c 0 (startS as S) = t := ht
    rw [ht', ← hN, start_den, hN] at hcode
    refine ACalls.of_body (k := fn.ntmps - as.length) hfn hc (by rw [denL_len]) (AWp.unle (AWp.mono hcode fun ex st hp => ?_))
    obtain ⟨x, S', e', h1, h2, h3, h4, h5, h6, h7⟩ := hp
    refine ⟨_, h3, ?_⟩
    obtain ⟨x', S2, e2, q1, q2⟩ := lbl_run (M := M) (e := e) hlb
    rw [h1] at q1
    cases q1
    have hr : run M (t.rel retE) e = some (.nrm, S', e') := by
     rw [run_rel (okR_ret t), h1]
     cases x <;> first | rfl | cases q2
    obtain ⟨hsf, _⟩ := g3 S' e' hr
    rw [hr] at g2
    have g2 : run M ((t.rel retE).graft (resF P fn N) none) e = run M (resF P fn N S') e' := g2
    unfold resF at hsf g2
    split at hsf
    ·rename_i v hv
     split at hsf
     ·rename_i hvl
      simp only [hv, hvl] at g2
      refine ⟨(by cases x <;> cases ex <;> first | exact .inl rfl | exact .inr rfl | exact h2.elim | cases q2), v.den G e', denH G e' S'.h, resV_den h5 hv, fun _ _ h => h, { S' with l := Tri.put .emp 0 v }, e', g2, ?_, rfl, ⟨fun i x hx => ?_, h4.h, h4.g⟩, h5, h6, h7⟩
      ·simp only [SS.at, Tri.get_put, if_true]
      ·simp only [Tri.get_put] at hx
       split at hx
       ·cases hx; exact hvl
       ·simp [Tri.get] at hx
     ·exact hsf.elim
    ·exact hsf.elim
   ·exact hs.elim
  ·exact hs.elim
 ·exact hs.elim
end
end Go.Av
