/- TD, part V: loops that count: how they are made, their parts. Conditions: none. -/
import Derived.Test.YtmkpmgfieagphaaGreatDoorPTDu
import Derived.Test.YtmkpmgfieagphaaGreatDoorPTDb
namespace Go.Av
open Go

def Tr.ends : Tr → List (Ek × SS)
 | .lf x S => [(x, S)]
 | .lt _ _ t => t.ends
 | .nd _ t => t.ends
 | .it _ a b => a.ends ++ b.ends
 | .jn _ a _ k => a.ends ++ k.ends
 | .lp _ _ _ _ _ a k => a.ends ++ k.ends
 | .lg _ _ _ a k => a.ends ++ k.ends
 | .bad _ => []
def phC (S : SS) : Phs → List Ca
 | [] => []
 | (i, r, p) :: l => ⟨i, r, p.sv S, p⟩ :: phC S l
def incG (kx j : Nat) : List Fc → Bool
 | [] => false
 | .d2 i (.ar .add .i64 .i64) x y :: r => match Nat.beq i j && (eqS x (.va (.int .i64) kx) && eqS y (.cs (.int .i64 1))) with
  | true => true
  | false => incG kx j r
 | _ :: r => incG kx j r
def incOk (kx ix : Nat) (S1 : SS) : Bool :=
 match S1.at ix with
 | .va (.int .i64) j => incG kx j S1.g
 | _ => false
def withN (J : Jn) (n : Nat) : Jn := ⟨J.l, J.h, n, J.ps⟩
def belSl (n : Nat) : List (Nat × SV) → Bool
 | [] => true
 | (_, x) :: r => SV.bel n x && belSl n r
def nxtOk (J : Jn) (k0 kx ix : Nat) (S1 : SS) : Bool := leafOk (withN J (Nat.max S1.n J.n)) k0 S1 && incOk kx ix S1
def lpEnds (J Ja : Jn) (k0 kx ix cur : Nat) : List (Ek × SS) → Bool
 | [] => true
 | (.nrm, S1) :: r => nxtOk J k0 kx ix S1 && lpEnds J Ja k0 kx ix cur r
 | (.ext m, S1) :: r => (match Nat.beq m cur with
  | true => leafOk Ja k0 S1
  | false => true) && lpEnds J Ja k0 kx ix cur r
 | _ :: r => lpEnds J Ja k0 kx ix cur r
def keptP (S2 : SS) : Phs → Bool
 | [] => true
 | (i, r, p) :: l => eqS (p.sv S2) (.va r i) && keptP S2 l
def Tr.chainX (cur : Nat) : Tr → Option SS
 | .lt _ _ t => t.chainX cur
 | .lf (.ext m) S => match Nat.beq m cur with
  | true => some S
  | false => none
 | _ => none
structure LpI where
 J : Jn
 Ja : Jn
 ix : Nat
 y : SV
def LpI.kx (I : LpI) (S : SS) : Nat := S.k + I.J.ps.length
def LpI.H (I : LpI) (S : SS) : SS := SS.put ⟨triOf I.J.l, I.J.h, I.J.n, I.kx S + 1, .rg (I.kx S) I.y :: S.g⟩ (some I.ix) (.va (.int .i64) (I.kx S))
def LpI.E (I : LpI) (S : SS) : SS := SS.put ⟨triOf I.J.l, I.J.h, I.J.n, I.kx S, S.g⟩ (some I.ix) I.y
def hasS (S : SS) (x : SV) : Nat → Bool
 | 0 => false
 | n + 1 => eqS (S.at n) x || hasS S x n
def lenOf (j : Nat) : List Fc → Option (TC × SV)
 | [] => none
 | .d1 i (.lnL c) x :: r => match Nat.beq i j with
  | true => some (c, x)
  | false => lenOf j r
 | _ :: r => lenOf j r
def isLi (c : TC) (x : SV) : Bool :=
 match x.rt with
 | some (.li d) => decide (d = c)
 | _ => false
def bndN (N : Nat) (S : SS) (y : SV) : List Nd :=
 match y with
 | .cs (.int .i64 n) => match decide (0 ≤ n ∧ n < 9223372036854775808) with
  | true => []
  | false => [.nth 9223372036854775808 y]
 | .va (.int .i64) j => match lenOf j S.g with
  | some (c, x) => match hasS S x N && isLi c x with
   | true => []
   | false => [.nth 9223372036854775808 y]
  | none => [.nth 9223372036854775808 y]
 | y => [.nth 9223372036854775808 y]
def isInt (y : SV) : Bool :=
 match y.rt with
 | some (.int .i64) => true
 | _ => false
def lpChk (N B cur : Nat) (S : SS) (I : LpI) (t1 t2 : Tr) : Bool :=
 (phOk S.k I.J.ps && (ltSl (I.kx S) I.J.l && ltH (I.kx S) I.J.h)) && ((eqS (S.at I.ix) (.cs (.int .i64 0)) && (isInt I.y && I.y.lt S.k)) &&
 ((leafOk (withN I.J (Nat.max S.n I.J.n)) S.k S && (belSl I.J.n I.J.l && belHS I.J.n I.J.h)) && ((Nat.blt I.ix N && Nat.ble B I.J.n) &&
 (lpEnds I.J ⟨I.Ja.l, I.Ja.h, I.Ja.n, I.J.ps⟩ S.k (I.kx S) I.ix cur t1.ends && ((ltSl (I.kx S) I.Ja.l && ltH (I.kx S) I.Ja.h) && (match t2.chainX cur with
  | some S2 => leafOk ⟨I.Ja.l, I.Ja.h, I.Ja.n, I.J.ps⟩ S.k S2 && keptP S2 I.J.ps
  | none => false))))))
def lpF (N B cur : Nat) (S : SS) (I : LpI) (t1 t2 : Tr) : Tr :=
 match lpChk N B cur S I t1 t2 with
 | true => emit S.k [] (bndN N S I.y) (.lp (t1.lvl + 1) cur (.mv (.int .i64) I.y) (I.kx S) (phC S I.J.ps) (t1.rel (markE (t1.lvl + 1))) (.lf (.ext cur) ⟨triOf I.Ja.l, I.Ja.h, I.Ja.n, I.kx S, S.g⟩))
 | false => .bad (orN t1.bad1 60)
def lpT (N B : Nat) (f : SS → Tr) (cur : Nat) (S : SS) (I : LpI) : Tr := lpF N B cur S I (f (I.H S)) (f (I.E S))

section
variable {P : Program} {G : Glob} {N B : Nat} {M : List Md}
theorem ends_mem : ∀ {t : Tr} {x : Ek} {e e' : Env} {S : SS}, run M t e = some (x, S, e') → (x, S) ∈ t.ends
 | .lf x S0, _, e, e', S, h => by
  simp only [run, Tr.fold] at h
  cases h
  simp [Tr.ends]
 | .lt _ _ t, _, _, _, _, h => ends_mem (t := t) h
 | .nd _ t, _, _, _, _, h => ends_mem (t := t) h
 | .it c a b, _, e, e', S, h => by
  simp only [run, Tr.fold] at h
  simp only [Tr.ends, List.mem_append]
  cases hc : c.get1 e .bool with
  | true => rw [hc] at h; exact .inl (ends_mem (t := a) h)
  | false => rw [hc] at h; exact .inr (ends_mem (t := b) h)
 | .jn n a ps k, y, e, e', S, h => by
  simp only [Tr.ends, List.mem_append]
  cases hr : run M a e with
  | none => unfold run at h; rw [run_jn_n hr] at h; cases h
  | some l =>
   obtain ⟨x, S1, e1⟩ := l
   cases hx : x.isJ n with
   | true =>
    unfold run at h
    rw [run_jn_t hr hx] at h
    exact .inr (ends_mem (t := k) h)
   | false =>
    unfold run at h
    rw [run_jn_f hr hx] at h
    cases h
    exact .inl (ends_mem (t := a) hr)
 | .lp m xid bd ix ca a k, y, e, e', S, h => by
  rw [run_lp] at h
  simp only [Tr.ends, List.mem_append]
  cases hl : loopS (fun i (v : caR ca) => rnd M m xid ca a (setC (Tri.put e ix ⟨.int .i64, (i : Int)⟩) ca v) v) 0 (intD (bd.den M e)).toNat (pkL _ (caV e ca)) with
  | inl r =>
   rw [hl] at h
   have h : r = some (y, S, e') := h
   subst h
   obtain ⟨i, v, hb⟩ := loopS_ret2 hl
   exact .inl (ends_mem (t := a) (rnd_ret hb))
  | inr v => rw [hl] at h; exact .inr (ends_mem (t := k) h)
 | .lg m xid ca a k, y, e, e', S, h => by
  rw [run_lg] at h
  simp only [Tr.ends, List.mem_append]
  cases hl : loopW (fun (v : caR ca) => rnd M m xid ca a (setC e ca v) v) fuelW (pkL _ (caV e ca)) with
  | inl r =>
   rw [hl] at h
   have h : r = some (y, S, e') := h
   subst h
   obtain ⟨v, hb⟩ := loopW_ret' hl
   exact .inl (ends_mem (t := a) (rnd_ret hb))
  | inr v => rw [hl] at h; exact .inr (ends_mem (t := k) h)
 | .bad _, _, _, _, _, h => by cases h
theorem up_pkE (S : SS) (e : Env) : ∀ ca : List Ca, upL (caT ca) (pkL (caT ca) (caE S e ca)) = caE S e ca
 | [] => rfl
 | [a] => by simp only [caT, caE, pkL, upL, as_mk]
 | a :: b :: l => by
  have := up_pkE S e (b :: l)
  simp only [caT, caE] at this
  simp only [caT, caE, pkL, upL, as_mk, this]
theorem caV_phC {S : SS} {e : Env} : ∀ {ps : Phs}, caV e (phC S ps) = caE S e (phC S ps)
 | [] => rfl
 | (_, _, _) :: l => by simp only [phC, caV, caE, caV_phC (ps := l)]
theorem setC_E {S0 S1 : SS} {e e1 : Env} {ps : Phs} : setC e (phC S0 ps) (pkL _ (caE S1 e1 (phC S0 ps))) = setP e (fun r p => ⟨r, (p.sv S1).get e1 r⟩) ps := by
 unfold setC
 rw [up_pkE]
 induction ps generalizing e with
 | nil => rfl
 | cons q l ih =>
  obtain ⟨i, r, p⟩ := q
  simp only [phC, caE, setL, setP]
  exact ih
theorem setL_keep {i : Nat} : ∀ {ca : List Ca} {e : Env} {ds : List Dyn}, (∀ a ∈ ca, a.i ≠ i) → Env.at (setL e ca ds) i = Env.at e i
 | [], _, [], _ => rfl
 | [], _, _ :: _, _ => rfl
 | _ :: _, _, [], _ => rfl
 | a :: l, e, d :: ds, h => by
  simp only [setL]
  rw [setL_keep (ca := l) fun b hb => h b (by simp [hb]), Env.at_put, if_neg (h a (by simp))]
theorem phC_i {S : SS} : ∀ {ps : Phs} {k : Nat}, phOk k ps = true → ∀ a ∈ phC S ps, k ≤ a.i ∧ a.i < k + ps.length
 | (j, r, p) :: l, k, h, a, ha => by
  simp only [phOk, Bool.and_eq_true] at h
  have hj := Nat.eq_of_beq_eq_true h.1
  simp only [phC] at ha
  rcases List.mem_cons.1 ha with rfl | ha
  ·simp only [List.length_cons]; omega
  ·have := phC_i (k := k + 1) h.2.2 a ha
   simp only [List.length_cons]
   omega
 | [], _, _, a, ha => by cases ha
theorem setC_keep {S : SS} {e : Env} {ps : Phs} {k i : Nat} {v : caR (phC S ps)} (h : phOk k ps = true) (hi : i < k ∨ k + ps.length ≤ i) : Env.at (setC e (phC S ps) v) i = Env.at e i :=
 setL_keep fun a ha => by have := phC_i h a ha; omega
theorem setC_ty {S : SS} : ∀ {ps : Phs} {k : Nat} {e : Env} {v : caR (phC S ps)}, phOk k ps = true → ∀ {i : Nat} {r : Rt} {p : Pl}, phAt ps i = some (r, p) → (Env.at (setC e (phC S ps) v) i).r = r
 | [], _, _, _, _, _, _, _, hp => by cases hp
 | [(j, r', p')], k, e, v, h, i, r, p, hp => by
  simp only [phAt] at hp
  split at hp
  ·rename_i hb
   cases hp
   rw [← Nat.eq_of_beq_eq_true hb]
   simp only [setC, phC, caT, upL, setL]
   rw [Env.at_put, if_pos rfl]
  ·cases hp
 | (j, r', p') :: q :: l, k, e, v, h, i, r, p, hp => by
  simp only [phOk, Bool.and_eq_true] at h
  have hj := Nat.eq_of_beq_eq_true h.1
  obtain ⟨j2, r2, p2⟩ := q
  have hs : setC e (phC S ((j, r', p') :: (j2, r2, p2) :: l)) v = setC (Tri.put e j ⟨r', v.1⟩) (phC S ((j2, r2, p2) :: l)) v.2 := rfl
  have h2 : phOk (k + 1) ((j2, r2, p2) :: l) = true := by
   simp only [phOk, Bool.and_eq_true]
   exact h.2.2
  simp only [phAt] at hp
  split at hp
  ·rename_i hb
   cases hp
   have := Nat.eq_of_beq_eq_true hb
   rw [hs]
   refine (congrArg Dyn.r (setC_keep (S := S) (e := Tri.put e j ⟨r', v.1⟩) (ps := (j2, r2, p2) :: l) (k := k + 1) (i := i) (v := v.2) h2 (.inl (by omega)))).trans ?_
   rw [Env.at_put, if_pos this]
  ·rw [hs]
   exact setC_ty (S := S) (e := Tri.put e j ⟨r', v.1⟩) (ps := (j2, r2, p2) :: l) (k := k + 1) (v := v.2) h2 hp
theorem setP_congr {f : Rt → Pl → Dyn} {i : Nat} : ∀ {ps : Phs} {e e' : Env}, Env.at e i = Env.at e' i → Env.at (setP e f ps) i = Env.at (setP e' f ps) i
 | [], _, _, h => h
 | (j, r, p) :: l, e, e', h => by
  simp only [setP]
  refine setP_congr (ps := l) ?_
  rw [Env.at_put, Env.at_put, h]
theorem lp_core {c : Code} {R A : Type} {n : Nat} {b : Nat → A → Step R A} {a0 : A} {hd : Nat → A → St} {Q : Exit → St → Prop} {s0 : St} {I : Nat → A → Prop}
    (h0 : Le s0 (hd 0 a0)) (hi : I 0 a0)
    (hr : ∀ k a, k < n → I k a → loopS b 0 n a0 = loopS b k (n - k) a → AWp P G c (fun e st => match e with
      | .normal => ∃ a', b k a = .nxt a' ∧ I (k + 1) a' ∧ Le st (hd (k + 1) a')
      | e => Q e st) (hd k a))
    (he : ∀ a, I n a → loopS b 0 n a0 = .inr a → AWp P G c (fun e st => match e with
      | .normal => False
      | e => Q e st) (hd n a)) : AWp P G (.loop c) Q s0 := by
  refine AWp.loop (ι := Nat × A) (fun x => hd x.1 x.2) (fun x => x.1 ≤ n ∧ loopS b 0 n a0 = loopS b x.1 (n - x.1) x.2 ∧ I x.1 x.2) (fun x => n - x.1) (0, a0) h0 ⟨Nat.zero_le _, rfl, hi⟩ ?_
  rintro ⟨k, a⟩ ⟨hk, hL, hI⟩
  simp only at hk hL hI ⊢
  by_cases hkn : k < n
  · refine AWp.mono (hr k a hkn hI hL) fun e st hs => ?_
    cases e with
    | normal =>
      obtain ⟨a', h1, h3, h2⟩ := hs
      exact ⟨(k + 1, a'), ⟨hkn, loopS_next hL hkn h1, h3⟩, by show n - (k + 1) < n - k; omega, h2⟩
    | _ => exact hs
  · have : k = n := by omega
    subst this
    refine AWp.mono (he a hI (loopS_end hL (Nat.le_refl _))) fun e st hs => ?_
    cases e with
    | normal => exact hs.elim
    | _ => exact hs
theorem Le.low {sl : List AV} {h : Heap} {m n b : Nat} (h1 : belowL n sl = true) (h2 : belowH n h = true) (h3 : b ≤ n) : Le ⟨sl, h, m, b⟩ ⟨sl, h, n, b⟩ := by
 intro E G a w ⟨β, ro, hr⟩
 refine ⟨β, ro, hr.defers, hr.size, fun i x hx => ?_, ⟨fun id o hg => ?_, hr.heap.inj, hr.heap.disj, hr.heap.lt⟩, hr.glob, ?_, hr.base⟩
 ·exact (hr.slot i x hx).lower (belowL_at h1 hx)
 ·have ho := hr.heap.objs id o hg
  obtain ⟨_, hbx⟩ := belowH_at h2 hg
  cases ho with
  | box t cs b arr e1 e2 e3 e4 => exact .box t cs b arr e1 e2 e3 fun j x hj => (e4 j x hj).lower (belowL_at (hbx t cs rfl) hj)
  | row t n es xs e1 e2 e3 => exact .row t n es xs e1 e2 e3
  | fro t n es e1 => exact .fro t n es e1
  | oth Φ b o e1 e2 e3 => exact .oth Φ b o e1 e2 e3
 ·have t := hr.trans
  exact ⟨t.os, t.tape, t.output, t.size, t.frame, t.roSub, t.roKeep, t.ownSub, t.old, fun id o hg => (belowH_at h2 hg).1, Nat.le_trans hr.base h3⟩
theorem tabT_below {n : Nat} {e : Env} {l : Tri SV} (h : ∀ i x, l.get i = some x → SV.bel n x = true) : ∀ (k i : Nat), belowL n (tabT G e l i k) = true
 | 0, _ => rfl
 | k + 1, i => by
  simp only [tabT, belowL, tabT_below h k (i + 1), Bool.and_true]
  cases hg : l.get i with
  | none => rfl
  | some x => exact bel_den (h i x hg)
theorem belSl_mem {n : Nat} : ∀ {l : List (Nat × SV)}, belSl n l = true → ∀ {i : Nat} {x : SV}, (i, x) ∈ l → SV.bel n x = true
 | (_, _) :: r, h, i, x, hm => by
  simp only [belSl, Bool.and_eq_true] at h
  rcases List.mem_cons.1 hm with q | q
  ·cases q; exact h.1
  ·exact belSl_mem h.2 q
theorem leaf_head {J : Jn} {k0 kx ix j : Nat} {S0 S1 : SS} {e e1 : Env} {k : Nat} {g g' : List Fc} (hp : phOk k0 J.ps = true) (hkx : kx = k0 + J.ps.length) (hl : ltSl kx J.l = true) (hh : ltH kx J.h = true)
    (hfl : ∀ c ∈ S1.g, c.ok e1) (h : leafOk (withN J (Nat.max S1.n J.n)) k0 S1 = true) (hb1 : belSl J.n J.l = true) (hb2 : belHS J.n J.h = true) (hB : B ≤ J.n) (hix : ix < N) (hag : Agr k0 e e1) (hv : (S1.at ix).den G e1 = .rv (.v (.int .i64 (j : Int)))) :
    Le (S1.den G N B e1) ((SS.put ⟨triOf J.l, J.h, J.n, k, g⟩ (some ix) (.va (.int .i64) kx)).den G N B (setC (Tri.put e kx ⟨.int .i64, (j : Int)⟩) (phC S0 J.ps) (pkL _ (caE S1 e1 (phC S0 J.ps))))) := by
  have h1 := leaf_leA (G := G) (N := N) (B := B) (J := withN J (Nat.max S1.n J.n)) hp hfl h (g := g') hag
  have h2 := h1.put (i := ix) (x := .v (.int .i64 (j : Int))) (by rw [den_slot, if_pos hix, hv])
  refine h2.le.trans ?_
  rw [setC_E, den_put]
  have hax : Env.at (setP (Tri.put e kx ⟨.int .i64, (j : Int)⟩) (fun r p => ⟨r, (p.sv S1).get e1 r⟩) J.ps) kx = ⟨.int .i64, (j : Int)⟩ := by
    rw [← setC_E (S0 := S0), setC_keep hp (.inr (by omega)), Env.at_put, if_pos rfl]
  have hva : (SV.va (.int .i64) kx).den G (setP (Tri.put e kx ⟨.int .i64, (j : Int)⟩) (fun r p => ⟨r, (p.sv S1).get e1 r⟩) J.ps) = .rv (.v (.int .i64 (j : Int))) := by
    simp only [SV.den, hax, as_mk, rvT, rv0]
  rw [hva]
  have hA : Agr kx (setP e (fun r p => ⟨r, (p.sv S1).get e1 r⟩) J.ps) (setP (Tri.put e kx ⟨.int .i64, (j : Int)⟩) (fun r p => ⟨r, (p.sv S1).get e1 r⟩) J.ps) := fun i hi =>
    setP_congr (by rw [Env.at_put, if_neg (by omega)])
  have hbd : (⟨triOf J.l, J.h, J.n, kx, []⟩ : SS).Bd := ⟨fun i x hx => ltSl_mem hl (triOf_get hx), hh, rfl⟩
  have hk := den_keep (G := G) (N := N) (B := B) (S := ⟨triOf J.l, J.h, J.n, kx, []⟩) hA hbd
  have h3 : (SS.mk (triOf J.l) J.h J.n k g).den G N B (setP (Tri.put e kx ⟨.int .i64, (j : Int)⟩) (fun r p => ⟨r, (p.sv S1).get e1 r⟩) J.ps) = (SS.mk (triOf J.l) J.h J.n kx []).den G N B (setP e (fun r p => ⟨r, (p.sv S1).get e1 r⟩) J.ps) := hk
  rw [h3]
  refine Le.low (m := Nat.max S1.n J.n) ?_ ?_ hB
  · have := tabT_below (G := G) (e := setP (Tri.put e kx ⟨.int .i64, (j : Int)⟩) (fun r p => ⟨r, (p.sv S1).get e1 r⟩) J.ps) (n := J.n) (l := (triOf J.l).put ix (.va (.int .i64) kx)) (fun i x hx => by
      rw [Tri.get_put] at hx
      split at hx
      · cases hx; rfl
      · exact belSl_mem hb1 (triOf_get hx)) N 0
    rw [tabT_put, hva] at this
    have hsl : tabT G (setP (Tri.put e kx ⟨.int .i64, (j : Int)⟩) (fun r p => ⟨r, (p.sv S1).get e1 r⟩) J.ps) (triOf J.l) 0 N = tabT G (setP e (fun r p => ⟨r, (p.sv S1).get e1 r⟩) J.ps) (triOf J.l) 0 N := congrArg St.slots hk
    rw [hsl] at this
    exact this
  · exact belHS_den hb2
end
end Go.Av
namespace Go.Av
open Go

section
variable {P : Program} {G : Glob} {N B : Nat} {M : List Md}
theorem hasS_ok {S : SS} {x : SV} : ∀ {n : Nat}, hasS S x n = true → ∃ i, i < n ∧ S.at i = x
 | n + 1, h => by
  simp only [hasS, Bool.or_eq_true] at h
  rcases h with h | h
  ·exact ⟨n, Nat.lt_succ_self n, eqS_eq h⟩
  ·obtain ⟨i, h1, h2⟩ := hasS_ok h
   exact ⟨i, by omega, h2⟩
theorem lenOf_ok {j : Nat} {c : TC} {x : SV} {e : Env} : ∀ {l : List Fc}, lenOf j l = some (c, x) → (∀ c ∈ l, c.ok e) → Env.at e j = ⟨.int .i64, (List.length (x.get1 e (.li c)) : Int)⟩
 | .d1 i f y :: r, h, hc => by
  have hr : ∀ {c x}, lenOf j r = some (c, x) → Env.at e j = ⟨.int .i64, (List.length (x.get1 e (.li c)) : Int)⟩ := fun h => lenOf_ok h fun c hm => hc c (by simp [hm])
  have h0 := hc (.d1 i f y) (by simp)
  cases f with
  | lnL d =>
   simp only [lenOf] at h
   split at h
   ·rename_i hb
    cases h
    rw [← Nat.eq_of_beq_eq_true hb]
    exact h0
   ·exact hr h
  | _ => exact hr h
 | .d2 _ _ _ _ :: r, h, hc => lenOf_ok (l := r) h fun c hm => hc c (by simp [hm])
 | .rg _ _ :: r, h, hc => lenOf_ok (l := r) h fun c hm => hc c (by simp [hm])
 | .bo _ _ :: r, h, hc => lenOf_ok (l := r) h fun c hm => hc c (by simp [hm])
theorem bndN_ok {S : SS} {y : SV} {e : Env} {En : Entry} {a : Act} {w : World} (hf : S.fok e) (h : ∀ n ∈ bndN N S y, n.ok M e) (hr : Rel En G (S.den G N B e) a w) : 0 ≤ intD (y.dyn e) ∧ intD (y.dyn e) < 9223372036854775808 := by
 have key : (Nd.nth 9223372036854775808 y).ok M e → 0 ≤ intD (y.dyn e) ∧ intD (y.dyn e) < 9223372036854775808 := fun h => h
 unfold bndN at h
 split at h
 ·rename_i n
  split at h
  ·rename_i hd
   exact of_decide_eq_true hd
  ·exact key (h _ (by simp))
 ·rename_i j
  split at h
  ·rename_i c x hl
   split at h
   ·rename_i hb
    simp only [Bool.and_eq_true] at hb
    obtain ⟨i, hi, hx⟩ := hasS_ok hb.1
    have h1 := lenOf_ok hl hf
    have hxr : x.rt = some (.li c) := by
     have := hb.2
     unfold isLi at this
     split at this
     ·rename_i d hd
      rw [hd, of_decide_eq_true this]
     ·cases this
    have h2 := rt_den (G := G) (e := e) hxr
    have hav : aval G (S.den G N B e) (.tmp i) = .rv (.li c (x.get1 e (.li c))) := by
     simp only [aval, List.getD_eq_getElem?_getD, den_slot, if_pos hi, hx, h2]
     rfl
    have := li_le hr hav
    have hd : intD ((SV.va (.int .i64) j).dyn e) = (List.length (x.get1 e (.li c)) : Int) := by
     simp only [SV.dyn, h1, as_mk, intD]
    rw [hd]
    omega
   ·exact key (h _ (by simp))
  ·exact key (h _ (by simp))
 ·exact key (h _ (by simp))
theorem incG_ok {kx j : Nat} {e : Env} : ∀ {l : List Fc}, incG kx j l = true → (∀ c ∈ l, c.ok e) → Env.at e j = ⟨.int .i64, IntKind.i64.wrap (((Env.at e kx).as (.int .i64) : Int) + 1)⟩
 | .d2 i f x y :: r, h, hc => by
  have hr : incG kx j r = true → Env.at e j = ⟨.int .i64, IntKind.i64.wrap (((Env.at e kx).as (.int .i64) : Int) + 1)⟩ := fun h => incG_ok h fun c hm => hc c (by simp [hm])
  have h0 := hc (.d2 i f x y) (by simp)
  unfold incG at h
  split at h
  ·cases h
  ·rename_i heq
   cases heq
   split at h
   ·rename_i hb
    simp only [Bool.and_eq_true] at hb
    rw [← Nat.eq_of_beq_eq_true hb.1]
    have h0 : Env.at e i = _ := h0
    rw [h0, eqS_eq hb.2.1, eqS_eq hb.2.2]
    simp only [F2.den, SV.get1, SV.dyn1, SV.dyn, as_mk, arI]
   ·exact hr h
  ·rename_i heq
   cases heq
   exact hr h
 | .d1 _ _ _ :: r, h, hc => incG_ok (l := r) h fun c hm => hc c (by simp [hm])
 | .rg _ _ :: r, h, hc => incG_ok (l := r) h fun c hm => hc c (by simp [hm])
 | .bo _ _ :: r, h, hc => incG_ok (l := r) h fun c hm => hc c (by simp [hm])
theorem incOk_ok {kx ix : Nat} {S1 : SS} {e : Env} {i : Nat} (h : incOk kx ix S1 = true) (hf : S1.fok e) (hk : Env.at e kx = ⟨.int .i64, (i : Int)⟩) (hi : (i : Int) < 9223372036854775807) : (S1.at ix).den G e = .rv (.v (.int .i64 ((i + 1 : Nat) : Int))) := by
 unfold incOk at h
 split at h
 ·rename_i j hx
  have := incG_ok h hf
  rw [hx]
  simp only [SV.den, this, as_mk, hk, rvT, rv0]
  rw [wrap_nat (by omega)]
 ·cases h
theorem chainX_safe {cur : Nat} : ∀ {t : Tr} {e : Env} {S : SS}, t.chainX cur = some S → t.safe M e ∧ ∃ e', run M t e = some (.ext cur, S, e')
 | .lt _ _ t, e, S, h => chainX_safe (t := t) h
 | .lf x S0, e, S, h => by
  refine ⟨trivial, ?_⟩
  unfold Tr.chainX at h
  split at h
  ·rename_i heq; cases heq
  ·rename_i m S' heq
   cases heq
   split at h
   ·rename_i hb
    cases h
    rw [← Nat.eq_of_beq_eq_true hb]
    exact ⟨e, rfl⟩
   ·cases h
  ·cases h
 | .nd _ _, _, _, h => by cases h
 | .it _ _ _, _, _, h => by cases h
 | .jn _ _ _ _, _, _, h => by cases h
 | .lp _ _ _ _ _ _ _, _, _, h => by cases h
 | .lg _ _ _ _ _, _, _, h => by cases h
 | .bad _, _, _, h => by cases h
theorem keptP_mem {S2 : SS} : ∀ {ps : Phs}, keptP S2 ps = true → ∀ {i : Nat} {r : Rt} {p : Pl}, phAt ps i = some (r, p) → p.sv S2 = .va r i
 | (j, r', p') :: l, h, i, r, p, hp => by
  simp only [keptP, Bool.and_eq_true] at h
  simp only [phAt] at hp
  split at hp
  ·rename_i hb
   cases hp
   rw [eqS_eq h.1, Nat.eq_of_beq_eq_true hb]
  ·exact keptP_mem h.2 hp
theorem lpEnds_mem {J Ja : Jn} {k0 kx ix cur : Nat} : ∀ {l : List (Ek × SS)}, lpEnds J Ja k0 kx ix cur l = true → ∀ {x : Ek} {S1 : SS}, (x, S1) ∈ l → (x = .nrm → nxtOk J k0 kx ix S1 = true) ∧ (x = .ext cur → leafOk Ja k0 S1 = true)
 | (y, S2) :: r, h, x, S1, hm => by
  have hh : lpEnds J Ja k0 kx ix cur r = true ∧ (y = .nrm → nxtOk J k0 kx ix S2 = true) ∧ (y = .ext cur → leafOk Ja k0 S2 = true) := by
   cases y with
   | nrm =>
    simp only [lpEnds, Bool.and_eq_true] at h
    exact ⟨h.2, fun _ => h.1, fun e => (by cases e)⟩
   | ext m =>
    simp only [lpEnds, Bool.and_eq_true] at h
    refine ⟨h.2, fun e => (by cases e), fun e => ?_⟩
    cases e
    have h1 := h.1
    rw [Nat.beq_refl] at h1
    exact h1
   | ret => exact ⟨h, fun e => (by cases e), fun e => (by cases e)⟩
   | jm m => exact ⟨h, fun e => (by cases e), fun e => (by cases e)⟩
  rcases List.mem_cons.1 hm with q | q
  ·cases q; exact hh.2
  ·exact lpEnds_mem hh.1 q
theorem AWp.rel {c : Code} {Q : Exit → St → Prop} {s : St} (h : (∃ E a w, Rel E G s a w) → AWp P G c Q s) : AWp P G c Q s := fun E a w hr => h ⟨E, a, w, hr⟩ E a w hr
theorem phAt_of {ps : Phs} : ∀ {k i : Nat}, phOk k ps = true → k ≤ i → i < k + ps.length → ∃ r p, phAt ps i = some (r, p) := by
 induction ps with
 | nil => intro k i _ h1 h2; simp at h2; omega
 | cons q l ih =>
  obtain ⟨j, r, p⟩ := q
  intro k i h h1 h2
  simp only [phOk, Bool.and_eq_true] at h
  have hj := Nat.eq_of_beq_eq_true h.1
  simp only [phAt]
  split
  ·exact ⟨r, p, rfl⟩
  ·rename_i hb
   refine ih h.2.2 ?_ (by simp only [List.length_cons] at h2; omega)
   have : j ≠ i := fun e => by rw [e, Nat.beq_refl] at hb; cases hb
   omega
theorem setL_congr {i : Nat} : ∀ {ca : List Ca} {e e' : Env} {ds : List Dyn}, Env.at e i = Env.at e' i → Env.at (setL e ca ds) i = Env.at (setL e' ca ds) i
 | [], _, _, [], h => h
 | [], _, _, _ :: _, h => h
 | _ :: _, _, _, [], h => h
 | a :: l, e, e', d :: ds, h => by
  simp only [setL]
  refine setL_congr (ca := l) ?_
  rw [Env.at_put, Env.at_put, h]
theorem lp_ok {c : Code} {f : SS → Tr} (hf : CodeOk P G N B M c f) {cur : Nat} {S : SS} {I : LpI} {e : Env} (hb : S.Bd) (hfk : S.fok e) (hs : (lpT N B f cur S I).safe M e) : AWp P G (.loop c) (Post G N B M (lpT N B f cur S I) e S.k) (S.den G N B e) := by
  unfold lpT lpF at hs ⊢
  split at hs
  rotate_left
  · exact hs.elim
  rename_i hchk
  generalize ht1 : f (I.H S) = t1 at hs hchk ⊢
  generalize ht2 : f (I.E S) = t2 at hchk
  simp only [lpChk, Bool.and_eq_true] at hchk
  obtain ⟨⟨c1, c2, c3⟩, ⟨c4, c5, c6⟩, ⟨c7, c8, c9⟩, ⟨c10, c11⟩, c12, ⟨c13, c14⟩, c15⟩ := hchk
  have c10 := blt_lt c10
  have c11 := Nat.le_of_ble_eq_true c11
  obtain ⟨n1, n2⟩ := emit_safe hs
  have n2 : (Tr.lp (t1.lvl + 1) cur (.mv (.int .i64) I.y) (I.kx S) (phC S I.J.ps) (t1.rel (markE (t1.lvl + 1))) (.lf (.ext cur) ⟨triOf I.Ja.l, I.Ja.h, I.Ja.n, I.kx S, S.g⟩)).safe M e := n2
  refine AWp.rel fun ⟨En, ac, w, hrel⟩ => ?_
  obtain ⟨z1, z2⟩ := bndN_ok (M := M) (e := e) hfk n1 hrel
  have hyr : I.y.rt = some (.int .i64) := by
    unfold isInt at c5
    split at c5
    · assumption
    · cases c5
  generalize hT : Tr.lp (t1.lvl + 1) cur (.mv (.int .i64) I.y) (I.kx S) (phC S I.J.ps) (t1.rel (markE (t1.lvl + 1))) (.lf (.ext cur) ⟨triOf I.Ja.l, I.Ja.h, I.Ja.n, I.kx S, S.g⟩) = TT at n2
  have hrunE : run M (emit S.k [] (bndN N S I.y) TT) e = run M TT e := emit_run
  refine AWp.mono (Q' := Post G N B M (emit S.k [] (bndN N S I.y) TT) e S.k) ?_ fun ex st h => h
  refine AWp.mono (Q := Post G N B M TT e S.k) ?_ fun ex st h => h.sub hrunE (Agr.refl _ _) (Nat.le_refl _)
  have hkx : I.kx S = S.k + I.J.ps.length := rfl
  have hHe : I.H S = SS.put ⟨triOf I.J.l, I.J.h, I.J.n, I.kx S + 1, .rg (I.kx S) I.y :: S.g⟩ (some I.ix) (.va (.int .i64) (I.kx S)) := rfl
  have hEe : I.E S = SS.put ⟨triOf I.J.l, I.J.h, I.J.n, I.kx S, S.g⟩ (some I.ix) I.y := rfl
  generalize hkd : I.kx S = kx at *
  have hbd : intD ((Ex.mv (.int .i64) I.y).den M e) = intD (I.y.dyn e) := by
    rw [rt_intD hyr]
    rfl
  generalize hZ : intD (I.y.dyn e) = Z at *
  have hlvl : t1.lvl < t1.lvl + 1 := Nat.lt_succ_self _
  have hok := okR_mark hlvl
  subst hT
  obtain ⟨⟨Inv, hI0, hIs⟩, hk⟩ := n2
  rw [hbd] at hIs
  have hrun : ∀ L, loopS (fun i (v : caR (phC S I.J.ps)) => rnd M (t1.lvl + 1) cur (phC S I.J.ps) (t1.rel (markE (t1.lvl + 1))) (setC (Tri.put e kx ⟨.int .i64, (i : Int)⟩) (phC S I.J.ps) v) v) 0 Z.toNat (pkL _ (caV e (phC S I.J.ps))) = L →
      run M (Tr.lp (t1.lvl + 1) cur (.mv (.int .i64) I.y) kx (phC S I.J.ps) (t1.rel (markE (t1.lvl + 1))) (.lf (.ext cur) ⟨triOf I.Ja.l, I.Ja.h, I.Ja.n, kx, S.g⟩)) e = Sum.elim (fun r => r) (fun v => some (.ext cur, ⟨triOf I.Ja.l, I.Ja.h, I.Ja.n, kx, S.g⟩, setC e (phC S I.J.ps) v)) L := fun L hL => by
    rw [run_lp, hbd, hL]
    rfl
  generalize hTT : Tr.lp (t1.lvl + 1) cur (.mv (.int .i64) I.y) kx (phC S I.J.ps) (t1.rel (markE (t1.lvl + 1))) (.lf (.ext cur) ⟨triOf I.Ja.l, I.Ja.h, I.Ja.n, kx, S.g⟩) = TT at hrun
  -- environments of rounds
  have hagE : ∀ (i : Nat) (v : caR (phC S I.J.ps)), Agr S.k e (setC (Tri.put e kx ⟨.int .i64, (i : Int)⟩) (phC S I.J.ps) v) := fun i v j hj => by
    rw [setC_keep c1 (.inl hj), Env.at_put, if_neg (by omega)]
  have hatK : ∀ (i : Nat) (v : caR (phC S I.J.ps)), Env.at (setC (Tri.put e kx ⟨.int .i64, (i : Int)⟩) (phC S I.J.ps) v) kx = ⟨.int .i64, (i : Int)⟩ := fun i v => by
    rw [setC_keep c1 (.inr (by omega)), Env.at_put, if_pos rfl]
  have hagX : ∀ (i : Nat) (v : caR (phC S I.J.ps)), Agr kx (setC (Tri.put e kx ⟨.int .i64, (i : Int)⟩) (phC S I.J.ps) v) (setC e (phC S I.J.ps) v) := fun i v j hj => by
    refine setL_congr ?_
    rw [Env.at_put, if_neg (by omega)]
  have hagS : ∀ (v : caR (phC S I.J.ps)), Agr S.k e (setC e (phC S I.J.ps) v) := fun v j hj => setC_keep c1 (.inl hj)
  have hHk : (I.H S).k = kx + 1 := by rw [hHe, put_k]
  have hEk : (I.E S).k = kx := by rw [hEe, put_k]
  have hylt : I.y.lt kx = true := lt_mono (by omega) c6
  have hHb : (I.H S).Bd := by
    rw [hHe]
    refine put_bd ⟨fun i x hx => lt_mono (Nat.le_succ kx) (ltSl_mem c2 (triOf_get hx)), ltH_mono (Nat.le_succ kx) c3, ?_⟩ (lt_blt (Nat.lt_succ_self kx))
    show (Fc.lt (kx + 1) (.rg kx I.y) && ltG (kx + 1) S.g) = true
    simp only [Fc.lt, lt_mono (Nat.le_succ kx) hylt, lt_blt (Nat.lt_succ_self kx), ltG_mono (show S.k ≤ kx + 1 by omega) hb.g, Bool.and_self]
  have hEb : (I.E S).Bd := by
    rw [hEe]
    exact put_bd ⟨fun i x hx => ltSl_mem c2 (triOf_get hx), c3, ltG_mono (show S.k ≤ kx by omega) hb.g⟩ hylt
  have hyd : ∀ e', Agr S.k e e' → intD (I.y.dyn e') = Z := fun e' h => by rw [dyn_agr h c6, hZ]
  have hHf : ∀ (i : Nat) (v : caR (phC S I.J.ps)), i < Z.toNat → (I.H S).fok (setC (Tri.put e kx ⟨.int .i64, (i : Int)⟩) (phC S I.J.ps) v) := fun i v hi => by
    rw [hHe]
    refine put_fok fun d hd => ?_
    rcases List.mem_cons.1 hd with rfl | hd
    · show 0 ≤ intD (Env.at _ kx) ∧ intD (Env.at _ kx) < intD (I.y.dyn _)
      rw [hatK, hyd _ (hagE i v)]
      show 0 ≤ (i : Int) ∧ (i : Int) < Z
      omega
    · exact fok_keep (hagE i v) hb.g hfk d hd
  have hEf : ∀ (i : Nat) (v : caR (phC S I.J.ps)), (I.E S).fok (setC (Tri.put e kx ⟨.int .i64, (i : Int)⟩) (phC S I.J.ps) v) := fun i v => by
    rw [hEe]
    exact put_fok (fok_keep (hagE i v) hb.g hfk)
  have hSab : ∀ S' : SS, S' = ⟨triOf I.Ja.l, I.Ja.h, I.Ja.n, kx, S.g⟩ → S'.Bd := fun S' h => by
    subst h
    exact ⟨fun i x hx => ltSl_mem c13 (triOf_get hx), c14, ltG_mono (show S.k ≤ kx by omega) hb.g⟩
  -- the end
  have hfin : ∀ (v : caR (phC S I.J.ps)) (st : St), run M TT e = some (.ext cur, ⟨triOf I.Ja.l, I.Ja.h, I.Ja.n, kx, S.g⟩, setC e (phC S I.J.ps) v) → Le st ((SS.mk (triOf I.Ja.l) I.Ja.h I.Ja.n kx S.g).den G N B (setC e (phC S I.J.ps) v)) → Post G N B M TT e S.k (.exit cur) st := fun v st h1 h2 =>
    ⟨.ext cur, _, _, h1, rfl, h2, hSab _ rfl, fok_keep (hagS v) hb.g hfk, hagS v, (show S.k ≤ kx by omega)⟩
  refine lp_core (n := Z.toNat) (b := fun i (v : caR (phC S I.J.ps)) => rnd M (t1.lvl + 1) cur (phC S I.J.ps) (t1.rel (markE (t1.lvl + 1))) (setC (Tri.put e kx ⟨.int .i64, (i : Int)⟩) (phC S I.J.ps) v) v) (a0 := pkL _ (caV e (phC S I.J.ps)))
    (hd := fun i v => (I.H S).den G N B (setC (Tri.put e kx ⟨.int .i64, (i : Int)⟩) (phC S I.J.ps) v)) (I := Inv) ?_ hI0 (fun k v hkn hI hL => ?_) (fun v hI hL => ?_)
  · rw [caV_phC, hHe]
    exact leaf_head (g' := S.g) c1 hkx c2 c3 hfk c7 c8 c9 c11 c10 (Agr.refl _ _) (by rw [eqS_eq c4]; rfl)
  · obtain ⟨q1, q2⟩ := hIs k v hkn hI
    have hAW := hf (I.H S) (setC (Tri.put e kx ⟨.int .i64, (k : Int)⟩) (phC S I.J.ps) v) hHb (hHf k v hkn) (by rw [ht1]; exact (safe_rel hok).1 q1)
    refine AWp.mono hAW fun ex st ⟨x, S1, e1, h1, h2, h3, h4, h5, h6, h7⟩ => ?_
    rw [ht1] at h1
    rw [hHk] at h6 h7
    obtain ⟨m1, m2⟩ := lpEnds_mem c12 (ends_mem h1)
    have hra : run M (t1.rel (markE (t1.lvl + 1))) (setC (Tri.put e kx ⟨.int .i64, (k : Int)⟩) (phC S I.J.ps) v) = some (markE (t1.lvl + 1) x, S1, e1) := by rw [run_rel hok, h1]; rfl
    have hrn : rnd M (t1.lvl + 1) cur (phC S I.J.ps) (t1.rel (markE (t1.lvl + 1))) (setC (Tri.put e kx ⟨.int .i64, (k : Int)⟩) (phC S I.J.ps) v) v = endR (t1.lvl + 1) cur (phC S I.J.ps) (fun x S e => some (x, S, e)) (markE (t1.lvl + 1) x) S1 e1 := by
      unfold rnd; rw [hra]
    have hagL : Agr S.k e e1 := Agr.trans (hagE k v) h6 (by omega)
    have out : ∀ ex, exM x ex → markE (t1.lvl + 1) x = x → x.isJ (t1.lvl + 1) = false → x.isX cur = false → Post G N B M TT e S.k ex st := fun ex h2 hm hj hx => by
      rw [hm, endR_R hj hx] at hrn
      have := hrun _ (loopS_ret hL hkn hrn)
      exact ⟨x, S1, e1, this, h2, h3, h4, h5, hagL, by omega⟩
    cases x with
    | jm m => cases ex <;> exact h2.elim
    | ret => cases ex <;> first | exact h2.elim | exact out _ h2 rfl rfl rfl
    | nrm =>
      cases ex with
      | normal =>
        have hx := m1 rfl
        simp only [nxtOk, Bool.and_eq_true] at hx
        rw [endR_J (x := markE (t1.lvl + 1) .nrm) (show Ek.isJ (t1.lvl + 1) (.jm (t1.lvl + 1)) = true from Nat.beq_refl _)] at hrn
        refine ⟨_, hrn, q2 _ (by rw [unit_rnd, hrn]; rfl), h3.trans ?_⟩
        simp only [hHe]
        refine leaf_head (g' := S.g) c1 hkx c2 c3 h5 hx.1 c8 c9 c11 c10 hagL (incOk_ok hx.2 h5 ?_ (by omega))
        rw [h6 kx (Nat.lt_succ_self kx), hatK]
      | _ => exact h2.elim
    | ext m =>
      cases ex with
      | exit m' =>
        have h2 : m = m' := h2
        subst h2
        cases hm : Nat.beq m cur with
        | false => exact out _ rfl rfl rfl hm
        | true =>
          have := Nat.eq_of_beq_eq_true hm
          subst this
          rw [endR_X (x := markE (t1.lvl + 1) (.ext m)) (show Ek.isJ (t1.lvl + 1) (.ext m) = false from rfl) (show Ek.isX m (.ext m) = true from hm)] at hrn
          have hr2 := hrun _ (loopS_brk hL hkn hrn)
          refine hfin _ st hr2 (h3.trans ?_)
          rw [setC_E]
          exact leaf_le (J := ⟨I.Ja.l, I.Ja.h, I.Ja.n, I.J.ps⟩) c1 h5 (m2 rfl) (g := S.g) hagL
      | _ => exact h2.elim
  · cases hch : t2.chainX cur with
    | none => rw [hch] at c15; cases c15
    | some S2 =>
      rw [hch] at c15
      simp only [Bool.and_eq_true] at c15
      obtain ⟨p1, p2⟩ := c15
      obtain ⟨s1, e2, s2⟩ := chainX_safe (M := M) (e := setC (Tri.put e kx ⟨.int .i64, (Z.toNat : Int)⟩) (phC S I.J.ps) v) hch
      have hAW := hf (I.E S) (setC (Tri.put e kx ⟨.int .i64, (Z.toNat : Int)⟩) (phC S I.J.ps) v) hEb (hEf _ v) (by rw [ht2]; exact s1)
      have hden : (I.E S).den G N B (setC (Tri.put e kx ⟨.int .i64, (Z.toNat : Int)⟩) (phC S I.J.ps) v) = (I.H S).den G N B (setC (Tri.put e kx ⟨.int .i64, (Z.toNat : Int)⟩) (phC S I.J.ps) v) := by
        rw [hEe, hHe, den_put, den_put]
        have h1 : I.y.den G (setC (Tri.put e kx ⟨.int .i64, (Z.toNat : Int)⟩) (phC S I.J.ps) v) = .rv (.v (.int .i64 Z)) := by
          rw [rt_int hyr, ← rt_intD hyr, hyd _ (hagE _ v)]
        have h2 : (SV.va (.int .i64) kx).den G (setC (Tri.put e kx ⟨.int .i64, (Z.toNat : Int)⟩) (phC S I.J.ps) v) = .rv (.v (.int .i64 Z)) := by
          simp only [SV.den, hatK, as_mk, rvT, rv0]
          rw [Int.toNat_of_nonneg z1]
        rw [h1, h2]
        rfl
      rw [hden] at hAW
      refine AWp.mono hAW fun ex st ⟨x, S1, e1, h1, h2, h3, h4, h5, h6, h7⟩ => ?_
      rw [ht2, s2] at h1
      cases h1
      rw [hEk] at h6
      cases ex with
      | exit m =>
        have h2 : cur = m := h2
        subst h2
        refine hfin v st (hrun _ hL) (h3.trans ?_)
        have hle := leaf_le (G := G) (N := N) (B := B) (J := ⟨I.Ja.l, I.Ja.h, I.Ja.n, I.J.ps⟩) c1 h5 p1 (g := S.g) (Agr.trans (hagE _ v) h6 (by omega) : Agr S.k e e2)
        refine hle.trans ?_
        have hA : Agr kx (setP e (fun r p => ⟨r, (p.sv S2).get e2 r⟩) I.J.ps) (setC e (phC S I.J.ps) v) := fun i hi => by
          rcases Nat.lt_or_ge i S.k with hlt | hge
          · rw [setP_keep c1 i hlt, hagS v i hlt]
          · obtain ⟨r, p, hp⟩ := phAt_of c1 hge (by omega)
            rw [setP_at c1 hp, keptP_mem p2 hp]
            have hone := (phOk_len c1 hp).2.2
            have hg : (SV.va r i).get e2 r = (Env.at e2 i).as r := by
              cases r <;> first | (simp only [SV.get, SV.get1, SV.dyn1, SV.dyn, as_mk]; done) | cases hone
            rw [hg, h6 i hi, ← hagX Z.toNat v i hi]
            have hty := setC_ty (S := S) (e := e) (v := v) c1 hp
            generalize Env.at (setC e (phC S I.J.ps) v) i = d at hty ⊢
            obtain ⟨r', x'⟩ := d
            simp only at hty
            subst hty
            rw [as_mk]
        have hbd' := hSab ⟨triOf I.Ja.l, I.Ja.h, I.Ja.n, kx, S.g⟩ rfl
        have hk2 := den_keep (G := G) (N := N) (B := B) (S := ⟨triOf I.Ja.l, I.Ja.h, I.Ja.n, kx, S.g⟩) hA hbd'
        rw [hk2]
        exact Le.refl _
      | _ => exact h2.elim
end
end Go.Av
namespace Go.Av
open Go

def lgEnds (J Ja : Jn) (k0 cur : Nat) : List (Ek × SS) → Bool
 | [] => true
 | (.nrm, S1) :: r => leafOk (withN J (Nat.max S1.n J.n)) k0 S1 && lgEnds J Ja k0 cur r
 | (.ext m, S1) :: r => (match Nat.beq m cur with
  | true => leafOk Ja k0 S1
  | false => true) && lgEnds J Ja k0 cur r
 | _ :: r => lgEnds J Ja k0 cur r
def lgChk (B cur : Nat) (S : SS) (J Ja : Jn) (t1 : Tr) : Bool :=
 (phOk S.k J.ps && (ltSl (S.k + J.ps.length) J.l && ltH (S.k + J.ps.length) J.h)) && ((leafOk (withN J (Nat.max S.n J.n)) S.k S && (belSl J.n J.l && belHS J.n J.h)) && (Nat.ble B J.n && (lgEnds J ⟨Ja.l, Ja.h, Ja.n, J.ps⟩ S.k cur t1.ends && (ltSl (S.k + J.ps.length) Ja.l && ltH (S.k + J.ps.length) Ja.h))))
def lgF (B cur : Nat) (S : SS) (J Ja : Jn) (t1 : Tr) : Tr :=
 match lgChk B cur S J Ja t1 with
 | true => .lg (t1.lvl + 1) cur (phC S J.ps) (t1.rel (markE (t1.lvl + 1))) (.lf (.ext cur) ⟨triOf Ja.l, Ja.h, Ja.n, S.k + J.ps.length, S.g⟩)
 | false => .bad (orN t1.bad1 61)
def lgT (B : Nat) (f : SS → Tr) (cur : Nat) (S : SS) (J Ja : Jn) : Tr := lgF B cur S J Ja (f (J.S S.k S.g))

def endsX (cur : Nat) : List (Ek × SS) → List SS × List SS
 | [] => ([], [])
 | (.nrm, S) :: r => match endsX cur r with
  | (a, b) => (S :: a, b)
 | (.ext m, S) :: r => match endsX cur r with
  | (a, b) => match Nat.beq m cur with
   | true => (a, S :: b)
   | false => (a, b)
 | _ :: r => endsX cur r
def slotsL (S : SS) : Nat → Nat → List (Nat × SV)
 | 0, _ => []
 | n + 1, i => match S.at i with
  | .top => slotsL S n (i + 1)
  | x => (i, x) :: slotsL S n (i + 1)
def mrgX (N k0 cur : Nat) (S : SS) (t : Tr) : Jn :=
 match endsX cur t.ends with
 | (a, b) => withN (mrg N k0 S (a ++ b)) S.n
def samePs : Phs → Phs → Bool
 | [], [] => true
 | (i, r, p) :: l, (j, q, u) :: m => (Nat.beq i j && eqR r q) && (eqP p u && samePs l m)
 | _, _ => false
def lenN {α : Type} : List α → Nat
 | [] => 0
 | _ :: r => Nat.succ (lenN r)
def sameJ (J K : Jn) : Bool := samePs J.ps K.ps && (Nat.beq (lenN J.l) (lenN K.l) && Nat.beq (lenN J.h) (lenN K.h))
def fixJ (N : Nat) (f : SS → Tr) (cur : Nat) (S : SS) : Nat → Jn → Tr → Jn × Tr
 | 0, J, t => (J, t)
 | n + 1, J, t => match mrgX N S.k cur S t with
  | K => match sameJ J K with
   | true => (K, t)
   | false => fixJ N f cur S n K (f (K.S S.k S.g))
def lookX (j : Nat) : List (Nat × Ex) → Option Ex
 | [] => none
 | (i, x) :: r => match Nat.beq i j with
  | true => some x
  | false => lookX j r
inductive BdX where
 | sv (y : SV)
 | ex (x : Ex)
 | none
def bdOf (k0 : Nat) (ds : List (Nat × Ex)) (y : SV) : BdX :=
 match y.lt k0 with
 | true => .sv y
 | false => match y with
  | .va (.int .i64) j => match lookX j ds with
   | some (.f1 .lnS x) => match x.lt k0 with
    | true => .ex (.f1 .lnS x)
    | false => .none
   | some (.f1 (.lnL c) x) => match x.lt k0 with
    | true => .ex (.f1 (.lnL c) x)
    | false => .none
   | _ => .none
  | _ => .none
def tstOf (k0 cur i : Nat) : Tr → List (Nat × Ex) → BdX
 | .lt j x t, ds => tstOf k0 cur i t ((j, x) :: ds)
 | .it (.va .bool g) _ b, ds => match lookX g ds with
  | some (.f2 (.cm .lss .i64) (.va (.int .i64) i') y) => match Nat.beq i' i with
   | true => match b.chainX cur with
    | some _ => bdOf k0 ds y
    | none => .none
   | false => .none
  | _ => .none
 | _, _ => .none
def allInc (i s : Nat) : List SS → Bool
 | [] => true
 | S :: r => incOk i s S && allInc i s r
def isZ (x : SV) : Bool := eqS x (.cs (.int .i64 0))
def findIx (S : SS) (cur : Nat) (t : Tr) (nx : List SS) : Phs → Option (Nat × BdX)
 | [] => none
 | (i, .int .i64, .slot s []) :: l => match isZ (S.at s) && allInc i s nx with
  | true => match tstOf S.k cur i t [] with
   | .none => findIx S cur t nx l
   | b => some (s, b)
  | false => findIx S cur t nx l
 | _ :: l => findIx S cur t nx l
def maskS (s : Nat) : List SS → List SS
 | [] => []
 | S :: r => S.put (some s) .top :: maskS s r
def mkI (N k0 : Nat) (S : SS) (s : Nat) (y : SV) (a b : List SS) : LpI :=
 match withN (mrg N k0 (S.put (some s) .top) (maskS s (a ++ b))) S.n with
 | J => ⟨J, withN J (maxN S.n b), s, y⟩
def unrollT (N : Nat) (f : SS → Tr) : Nat → SS → Tr
 | 0, _ => .bad 63
 | n + 1, S => seqT N S (f S) (unrollT N f n)
def fewN (y : SV) : Option Nat :=
 match y with
 | .cs (.int .i64 (.ofNat n)) => match Nat.ble n 16 with
  | true => some (n + 1)
  | false => none
 | _ => none
def Tr.gap : Tr → Bool
 | .lf _ _ => false
 | .lt _ _ t => t.gap
 | .nd _ t => t.gap
 | .it _ a b => a.gap || b.gap
 | .jn _ a _ k => a.gap || k.gap
 | .lp _ _ _ _ _ a k => a.gap || k.gap
 | .lg _ _ _ a k => a.gap || k.gap
 | .bad _ => true
def fbT (t : Tr) (u : Unit → Tr) : Tr :=
 match t.gap with
 | true => u ()
 | false => t
def loopF (N B : Nat) (f : SS → Tr) (cur : Nat) (S : SS) : Jn × Tr → Tr
 | (J, t) => match endsX cur t.ends with
  | (a, b) => match findIx S cur t a J.ps with
   | some (s, .sv y) => match fewN y with
    | some n => fbT (lpT N B f cur S (mkI N S.k S s y a b)) fun _ => unrollT N f n S
    | none => lpT N B f cur S (mkI N S.k S s y a b)
   | some (s, .ex x) => match ltX S.k [x] with
    | true => emit S.k [x] [] (lpT N B f cur (S.adv S.k [x]) (mkI N (S.k + 1) S s (.va (.int .i64) S.k) a b))
    | false => .bad 62
   | _ => lgT B f cur S J (withN J (maxN S.n b))
def isNilS (x : SV) : Bool := eqS x (.cs (.slice none 0 0))
def rowAtS (n i : Nat) (S : SS) : Option (TypeId × TC) :=
 match S.at i with
 | .sl id => match Nat.ble n id, getH S.h id with
  | true, some (.rw t c _) => some (t, c)
  | _, _ => none
 | _ => none
def rowAtL (n i : Nat) : List SS → Option (TypeId × TC)
 | [] => none
 | S :: r => match rowAtS n i S with
  | some x => some x
  | none => rowAtL n i r
def rowsIn (S : SS) (a : List SS) : Nat → Nat → List (Nat × TypeId × TC)
 | 0, _ => []
 | k + 1, i => match isNilS (S.at i) with
  | true => match rowAtL S.n i a with
   | some (t, c) => (i, t, c) :: rowsIn S a k (i + 1)
   | none => rowsIn S a k (i + 1)
  | false => rowsIn S a k (i + 1)
def addRows (N B : Nat) : List (Nat × TypeId × TC) → SS → SS
 | [], S => S
 | (i, t, c) :: r, S => match isNilS (S.at i) && (Nat.blt i N && Nat.ble B S.n) with
  | true => addRows N B r ⟨S.l.put i (.sl S.n), (S.n, .rw t c (.cs (.slice none 0 0))) :: S.h, S.n + 1, S.k, S.g⟩
  | false => addRows N B r S
def loopR (N B : Nat) (f : SS → Tr) (cur : Nat) (S : SS) (t : Tr) : Tr :=
 loopF N B f cur S (fixJ N f cur S 6 ⟨slotsL S N 0, S.h, S.n, []⟩ t)
def Tr.allS : Tr → List SS
 | .lf _ S => [S]
 | .lt _ _ t => t.allS
 | .nd _ t => t.allS
 | .it _ a b => a.allS ++ b.allS
 | .jn _ a _ k => a.allS ++ k.allS
 | .lp _ _ _ _ _ a k => a.allS ++ k.allS
 | .lg _ _ _ a k => a.allS ++ k.allS
 | .bad _ => []
def rowBx (n id off : Nat) (S : SS) : Option (TypeId × TC) :=
 match getH S.h id with
 | some (.bx _ l) => match getL .top l off with
  | .sl k => match Nat.ble n k, getH S.h k with
   | true, some (.rw t c _) => some (t, c)
   | _, _ => none
  | _ => none
 | _ => none
def rowBxL (n id off : Nat) : List SS → Option (TypeId × TC)
 | [] => none
 | S :: r => match rowBx n id off S with
  | some x => some x
  | none => rowBxL n id off r
def boxIn (S : SS) (a : List SS) (id : Nat) : Nat → List SV → List (Nat × Nat × TypeId × TC)
 | _, [] => []
 | off, x :: r => match isNilS x with
  | true => match rowBxL S.n id off a with
   | some (t, c) => (id, off, t, c) :: boxIn S a id (off + 1) r
   | none => boxIn S a id (off + 1) r
  | false => boxIn S a id (off + 1) r
def boxsIn (S : SS) (a : List SS) : List (Nat × SO) → List (Nat × Nat × TypeId × TC)
 | [] => []
 | (id, .bx _ l) :: r => boxIn S a id 0 l ++ boxsIn S a r
 | _ :: r => boxsIn S a r
def addBox (B : Nat) : List (Nat × Nat × TypeId × TC) → SS → SS
 | [], S => S
 | (id, off, t, c) :: r, S => match getH S.h id with
  | some (.bx bt l) => match (match l[off]? with | some x => isNilS x | none => false) && Nat.ble B S.n with
   | true => addBox B r ⟨S.l, setH ((S.n, .rw t c (.cs (.slice none 0 0))) :: S.h) id (.bx bt (l.set off (.sl S.n))), S.n + 1, S.k, S.g⟩
   | false => addBox B r S
  | _ => addBox B r S
def loopQ (N B : Nat) (f : SS → Tr) (cur : Nat) (S : SS) (t : Tr) : Tr :=
 match rowsIn S t.allS N 0 with
 | [] => match boxsIn S t.allS S.h with
  | [] => loopR N B f cur S t
  | q :: qs => loopR N B f cur (addBox B (q :: qs) S) (f (addBox B (q :: qs) S))
 | p :: r => loopR N B f cur (addBox B (boxsIn S t.allS S.h) (addRows N B (p :: r) S)) (f (addBox B (boxsIn S t.allS S.h) (addRows N B (p :: r) S)))
def loopT (N B : Nat) (f : SS → Tr) (cur : Nat) (S : SS) : Tr := loopQ N B f cur S (f S)

section
variable {P : Program} {G : Glob} {N B : Nat} {M : List Md}
theorem lgEnds_mem {J Ja : Jn} {k0 cur : Nat} : ∀ {l : List (Ek × SS)}, lgEnds J Ja k0 cur l = true → ∀ {x : Ek} {S1 : SS}, (x, S1) ∈ l → (x = .nrm → leafOk (withN J (Nat.max S1.n J.n)) k0 S1 = true) ∧ (x = .ext cur → leafOk Ja k0 S1 = true)
 | (y, S2) :: r, h, x, S1, hm => by
  have hh : lgEnds J Ja k0 cur r = true ∧ (y = .nrm → leafOk (withN J (Nat.max S2.n J.n)) k0 S2 = true) ∧ (y = .ext cur → leafOk Ja k0 S2 = true) := by
   cases y with
   | nrm =>
    simp only [lgEnds, Bool.and_eq_true] at h
    exact ⟨h.2, fun _ => h.1, fun e => (by cases e)⟩
   | ext m =>
    simp only [lgEnds, Bool.and_eq_true] at h
    refine ⟨h.2, fun e => (by cases e), fun e => ?_⟩
    cases e
    have h1 := h.1
    rw [Nat.beq_refl] at h1
    exact h1
   | ret => exact ⟨h, fun e => (by cases e), fun e => (by cases e)⟩
   | jm m => exact ⟨h, fun e => (by cases e), fun e => (by cases e)⟩
  rcases List.mem_cons.1 hm with q | q
  ·cases q; exact hh.2
  ·exact lgEnds_mem hh.1 q
theorem lg_core {c : Code} {R A : Type} {n : Nat} {b : A → Step R A} {a0 : A} {hd : A → St} {Q : Exit → St → Prop} {s0 : St} {I : A → Prop}
    (h0 : Le s0 (hd a0)) (hi : I a0) (he : endsW b n a0)
    (hr : ∀ a, I a → (∀ r, b a = .ret r → loopW b n a0 = .inl r) → (∀ v, b a = .brk v → loopW b n a0 = .inr v) → AWp P G c (fun e st => match e with
      | .normal => ∃ a', b a = .nxt a' ∧ I a' ∧ Le st (hd a')
      | e => Q e st) (hd a)) : AWp P G (.loop c) Q s0 := by
  refine AWp.loop (ι := Nat × A) (fun x => hd x.2) (fun x => (loopW b n a0 = loopW b x.1 x.2 ∧ endsW b x.1 x.2) ∧ I x.2) (fun x => x.1) (n, a0) h0 ⟨⟨rfl, he⟩, hi⟩ ?_
  rintro ⟨k, a⟩ ⟨hL, hI⟩
  refine AWp.mono (hr a hI (fun r hb => loopW_ret hL hb) (fun v hb => loopW_brk hL hb)) fun e st hs => ?_
  cases e with
  | normal =>
    obtain ⟨a', h1, h3, h2⟩ := hs
    obtain ⟨m, h4, h5⟩ := loopW_next hL h1
    exact ⟨(m, a'), ⟨h5, h3⟩, by show m < k; omega, h2⟩
  | _ => exact hs
theorem leaf_head0 {J : Jn} {k0 kx : Nat} {S0 S1 : SS} {e e1 : Env} {k : Nat} {g g' : List Fc} (hp : phOk k0 J.ps = true) (hfl : ∀ c ∈ S1.g, c.ok e1) (h : leafOk (withN J (Nat.max S1.n J.n)) k0 S1 = true) (hb1 : belSl J.n J.l = true) (hb2 : belHS J.n J.h = true) (hB : B ≤ J.n) (hag : Agr k0 e e1) :
    Le (S1.den G N B e1) ((SS.mk (triOf J.l) J.h J.n k g).den G N B (setC e (phC S0 J.ps) (pkL _ (caE S1 e1 (phC S0 J.ps))))) := by
  have h1 := leaf_leA (G := G) (N := N) (B := B) (J := withN J (Nat.max S1.n J.n)) hp hfl h (g := g') hag
  refine h1.le.trans ?_
  rw [setC_E]
  refine Le.low (m := Nat.max S1.n J.n) ?_ ?_ hB
  · exact tabT_below (n := J.n) (l := triOf J.l) (fun i x hx => belSl_mem hb1 (triOf_get hx)) N 0
  · exact belHS_den hb2
theorem lg_ok {c : Code} {f : SS → Tr} (hf : CodeOk P G N B M c f) {cur : Nat} {S : SS} {J Ja : Jn} {e : Env} (hb : S.Bd) (hfk : S.fok e) (hs : (lgT B f cur S J Ja).safe M e) : AWp P G (.loop c) (Post G N B M (lgT B f cur S J Ja) e S.k) (S.den G N B e) := by
  unfold lgT lgF at hs ⊢
  split at hs
  rotate_left
  · exact hs.elim
  rename_i hchk
  generalize ht1 : f (J.S S.k S.g) = t1 at hs hchk ⊢
  simp only [lgChk, Bool.and_eq_true] at hchk
  obtain ⟨⟨c1, c2, c3⟩, ⟨c7, c8, c9⟩, c11, c12, c13, c14⟩ := hchk
  have c11 := Nat.le_of_ble_eq_true c11
  have hlvl : t1.lvl < t1.lvl + 1 := Nat.lt_succ_self _
  have hok := okR_mark hlvl
  obtain ⟨⟨Inv, hI0, hIs⟩, hend, hk⟩ := hs
  generalize hkx : S.k + J.ps.length = kx at *
  have hle : S.k ≤ kx := by rw [← hkx]; exact Nat.le_add_right _ _
  have hrun : ∀ L, loopW (fun (v : caR (phC S J.ps)) => rnd M (t1.lvl + 1) cur (phC S J.ps) (t1.rel (markE (t1.lvl + 1))) (setC e (phC S J.ps) v) v) fuelW (pkL _ (caV e (phC S J.ps))) = L →
      run M (Tr.lg (t1.lvl + 1) cur (phC S J.ps) (t1.rel (markE (t1.lvl + 1))) (.lf (.ext cur) ⟨triOf Ja.l, Ja.h, Ja.n, kx, S.g⟩)) e = Sum.elim (fun r => r) (fun v => some (.ext cur, ⟨triOf Ja.l, Ja.h, Ja.n, kx, S.g⟩, setC e (phC S J.ps) v)) L := fun L hL => by
    rw [run_lg, hL]
    rfl
  have hend' : endsW (fun (v : caR (phC S J.ps)) => rnd M (t1.lvl + 1) cur (phC S J.ps) (t1.rel (markE (t1.lvl + 1))) (setC e (phC S J.ps) v) v) fuelW (pkL _ (caV e (phC S J.ps))) :=
    (endsW_map (fun _ => ()) (fun v => unit_rnd _ _ _ _ _ v) _ _).1 hend
  generalize hTT : Tr.lg (t1.lvl + 1) cur (phC S J.ps) (t1.rel (markE (t1.lvl + 1))) (.lf (.ext cur) ⟨triOf Ja.l, Ja.h, Ja.n, kx, S.g⟩) = TT at hrun
  have hagS : ∀ (v : caR (phC S J.ps)), Agr S.k e (setC e (phC S J.ps) v) := fun v j hj => setC_keep c1 (.inl hj)
  have hHb : (J.S S.k S.g).Bd := ⟨fun i x hx => by show x.lt (S.k + J.ps.length) = true; rw [hkx]; exact ltSl_mem c2 (triOf_get hx), by show ltH (S.k + J.ps.length) J.h = true; rw [hkx]; exact c3, by show ltG (S.k + J.ps.length) S.g = true; rw [hkx]; exact ltG_mono hle hb.g⟩
  have hHf : ∀ (v : caR (phC S J.ps)), (J.S S.k S.g).fok (setC e (phC S J.ps) v) := fun v => fok_keep (hagS v) hb.g hfk
  have hSab : ∀ S' : SS, S' = ⟨triOf Ja.l, Ja.h, Ja.n, kx, S.g⟩ → S'.Bd := fun S' h => by
    subst h
    exact ⟨fun i x hx => ltSl_mem c13 (triOf_get hx), c14, ltG_mono hle hb.g⟩
  refine lg_core (n := fuelW) (b := fun (v : caR (phC S J.ps)) => rnd M (t1.lvl + 1) cur (phC S J.ps) (t1.rel (markE (t1.lvl + 1))) (setC e (phC S J.ps) v) v) (a0 := pkL _ (caV e (phC S J.ps)))
    (hd := fun v => (J.S S.k S.g).den G N B (setC e (phC S J.ps) v)) (I := Inv) ?_ hI0 hend' (fun v hI hret hbrk => ?_)
  · rw [caV_phC]
    exact leaf_head0 (kx := kx) (g' := S.g) c1 hfk c7 c8 c9 c11 (Agr.refl _ _)
  · obtain ⟨q1, q2⟩ := hIs v hI
    have hAW := hf (J.S S.k S.g) (setC e (phC S J.ps) v) hHb (hHf v) (by rw [ht1]; exact (safe_rel hok).1 q1)
    refine AWp.mono hAW fun ex st ⟨x, S1, e1, h1, h2, h3, h4, h5, h6, h7⟩ => ?_
    rw [ht1] at h1
    have hJk : (J.S S.k S.g).k = kx := hkx
    rw [hJk] at h6 h7
    obtain ⟨m1, m2⟩ := lgEnds_mem c12 (ends_mem h1)
    have hra : run M (t1.rel (markE (t1.lvl + 1))) (setC e (phC S J.ps) v) = some (markE (t1.lvl + 1) x, S1, e1) := by rw [run_rel hok, h1]; rfl
    have hrn : rnd M (t1.lvl + 1) cur (phC S J.ps) (t1.rel (markE (t1.lvl + 1))) (setC e (phC S J.ps) v) v = endR (t1.lvl + 1) cur (phC S J.ps) (fun x S e => some (x, S, e)) (markE (t1.lvl + 1) x) S1 e1 := by
      unfold rnd; rw [hra]
    have hagL : Agr S.k e e1 := Agr.trans (hagS v) h6 hle
    have out : ∀ ex, exM x ex → markE (t1.lvl + 1) x = x → x.isJ (t1.lvl + 1) = false → x.isX cur = false → Post G N B M TT e S.k ex st := fun ex h2 hm hj hx => by
      rw [hm, endR_R hj hx] at hrn
      exact ⟨x, S1, e1, hrun _ (hret _ hrn), h2, h3, h4, h5, hagL, Nat.le_trans hle h7⟩
    cases x with
    | jm m => cases ex <;> exact h2.elim
    | ret => cases ex <;> first | exact h2.elim | exact out _ h2 rfl rfl rfl
    | nrm =>
      cases ex with
      | normal =>
        rw [endR_J (x := markE (t1.lvl + 1) .nrm) (show Ek.isJ (t1.lvl + 1) (.jm (t1.lvl + 1)) = true from Nat.beq_refl _)] at hrn
        exact ⟨_, hrn, q2 _ (by rw [unit_rnd, hrn]; rfl), h3.trans (leaf_head0 (kx := kx) (g' := S.g) c1 h5 (m1 rfl) c8 c9 c11 hagL)⟩
      | _ => exact h2.elim
    | ext m =>
      cases ex with
      | exit m' =>
        have h2 : m = m' := h2
        subst h2
        cases hm : Nat.beq m cur with
        | false => exact out _ rfl rfl rfl hm
        | true =>
          have := Nat.eq_of_beq_eq_true hm
          subst this
          rw [endR_X (x := markE (t1.lvl + 1) (.ext m)) (show Ek.isJ (t1.lvl + 1) (.ext m) = false from rfl) (show Ek.isX m (.ext m) = true from hm)] at hrn
          refine ⟨.ext m, _, _, hrun _ (hbrk _ hrn), rfl, h3.trans ?_, hSab _ rfl, fok_keep (hagS _) hb.g hfk, hagS _, hle⟩
          rw [setC_E]
          exact leaf_le (J := ⟨Ja.l, Ja.h, Ja.n, J.ps⟩) c1 h5 (m2 rfl) (g := S.g) hagL
      | _ => exact h2.elim
theorem unroll_ok {c : Code} {f : SS → Tr} (hf : CodeOk P G N B M c f) {Q : Exit → St → Prop} : ∀ (n : Nat) {S : SS} {e : Env}, S.Bd → S.fok e → (unrollT N f n S).safe M e → (∀ ex st, Post G N B M (unrollT N f n S) e S.k ex st → Q ex st) → AR P G c Q n (S.den G N B e)
 | 0, _, _, _, _, hs, _ => hs.elim
 | n + 1, S, e, hb, hfk, hs, hQ => by
  obtain ⟨t1, t2, t3⟩ := seqT_ok (G := G) (B := B) hb hfk hs
  refine AR.rd n (AWp.mono (hf S e hb hfk t1) fun ex st hp => ?_)
  obtain ⟨x, S', e', h1, h2, h3, h4, h5, h6, h7⟩ := hp
  have other : x ≠ .nrm → Q ex st := fun hne => hQ ex st ⟨x, S', e', t2 x S' e' h1 hne (exM_J h2), h2, h3, h4, h5, h6, h7⟩
  cases x with
  | nrm =>
   cases ex with
   | normal =>
    obtain ⟨S2, e2, s1, s2, s3, s4, s5, s6, s7⟩ := t3 S' e' h1 h4 h5 h6 h7
    have := unroll_ok hf n s2 s3 s6 (Q := Q) fun ex st hp => hQ ex st (hp.sub s7 s4 s5)
    exact fun E a w hr => this E a w (s1 E G a w (h3 E G a w hr))
   | _ => exact h2.elim
  | ret => cases ex <;> first | exact h2.elim | exact other (by simp)
  | ext n => cases ex <;> first | exact h2.elim | exact other (by simp)
  | jm n => cases ex <;> exact h2.elim
theorem addRows_ok {c : Code} {Q : Exit → St → Prop} {e : Env} : ∀ (l : List (Nat × TypeId × TC)) {S : SS}, S.Bd → S.fok e → (addRows N B l S).Bd ∧ (addRows N B l S).fok e ∧ (addRows N B l S).k = S.k ∧ (AWp P G c Q ((addRows N B l S).den G N B e) → AWp P G c Q (S.den G N B e))
 | [], _, hb, hf => ⟨hb, hf, rfl, fun h => h⟩
 | (i, t, d) :: r, S, hb, hf => by
  unfold addRows
  split
  ·rename_i hc
   simp only [Bool.and_eq_true] at hc
   obtain ⟨c1, c2, c3⟩ := hc
   have hb' : (⟨S.l.put i (.sl S.n), (S.n, .rw t d (.cs (.slice none 0 0))) :: S.h, S.n + 1, S.k, S.g⟩ : SS).Bd := by
    refine ⟨fun j x hx => ?_, ?_, hb.g⟩
    ·simp only [Tri.get_put] at hx
     split at hx
     ·cases hx; rfl
     ·exact hb.l j x hx
    ·show (SO.lt S.k (.rw t d (.cs (.slice none 0 0))) && ltH S.k S.h) = true
     rw [hb.h]
     rfl
   obtain ⟨h1, h2, h3, h4⟩ := addRows_ok r hb' hf
   refine ⟨h1, h2, h3, fun h => ?_⟩
   refine AWp.nrow i t (nT d) ?_ (by rw [den_slot, if_pos (blt_lt c2), eqS_eq c1]; rfl) c3
   have := h4 h
   have hd : (⟨S.l.put i (.sl S.n), (S.n, .rw t d (.cs (.slice none 0 0))) :: S.h, S.n + 1, S.k, S.g⟩ : SS).den G N B e = { S.den G N B e with slots := (S.den G N B e).slots.set i (.sl (S.den G N B e).next), heap := ((S.den G N B e).next, .row false t (nT d) []) :: (S.den G N B e).heap, next := (S.den G N B e).next + 1 } := by
    simp only [SS.den, tabT_put, denH, SV.den, SO.den, SV.get1, SV.dyn1, as_mk]
    rfl
   rw [hd] at this
   exact this
  ·exact addRows_ok r hb hf
theorem addBox_ok {c : Code} {Q : Exit → St → Prop} {e : Env} : ∀ (l : List (Nat × Nat × TypeId × TC)) {S : SS}, S.Bd → S.fok e → (addBox B l S).Bd ∧ (addBox B l S).fok e ∧ (addBox B l S).k = S.k ∧ (AWp P G c Q ((addBox B l S).den G N B e) → AWp P G c Q (S.den G N B e))
 | [], _, hb, hf => ⟨hb, hf, rfl, fun h => h⟩
 | (id, off, t, d) :: r, S, hb, hf => by
  unfold addBox
  split
  ·rename_i bt l hg
   split
   ·rename_i hc
    simp only [Bool.and_eq_true] at hc
    obtain ⟨c1, c3⟩ := hc
    have hl := ltH_get hb.h hg
    have hb' : (⟨S.l, setH ((S.n, .rw t d (.cs (.slice none 0 0))) :: S.h) id (.bx bt (l.set off (.sl S.n))), S.n + 1, S.k, S.g⟩ : SS).Bd := by
     refine ⟨hb.l, ltH_set (o := .bx bt (l.set off (.sl S.n))) (ltL_set (x := .sl S.n) rfl hl) ?_, hb.g⟩
     show (SO.lt S.k (.rw t d (.cs (.slice none 0 0))) && ltH S.k S.h) = true
     rw [hb.h]
     rfl
    obtain ⟨h1, h2, h3, h4⟩ := addBox_ok r hb' hf
    refine ⟨h1, h2, h3, fun h => ?_⟩
    have := h4 h
    have hid : hget (S.den G N B e).heap id = some (.box bt (SV.denL G e l)) := by simp only [SS.den, denH_get, hg, Option.map_some, SO.den]
    have hk : (SV.denL G e l)[off]? = some (.rv (.v (.slice none 0 0))) := by
     rw [denL_map, List.getElem?_map]
     cases hx : l[off]? with
     | none => rw [hx] at c1; cases c1
     | some x =>
      rw [hx] at c1
      have := eqS_eq c1
      subst this
      rfl
    refine AWp.le (Le.nilRowB (s := S.den G N B e) id off t (nT d) hid hk (Nat.le_of_ble_eq_true c3) rfl) ?_
    have hd : (⟨S.l, setH ((S.n, .rw t d (.cs (.slice none 0 0))) :: S.h) id (.bx bt (l.set off (.sl S.n))), S.n + 1, S.k, S.g⟩ : SS).den G N B e = { S.den G N B e with heap := hset (((S.den G N B e).next, .row false t (nT d) []) :: (S.den G N B e).heap) id (.box bt ((SV.denL G e l).set off (.sl (S.den G N B e).next))), next := (S.den G N B e).next + 1 } := by
     simp only [SS.den, denH_set, denH, SO.den, denL_set, SV.den, SV.get1, SV.dyn1, as_mk]
     rfl
    rw [hd] at this
    exact this
   ·exact addBox_ok r hb hf
  ·exact addBox_ok r hb hf
theorem loopR_ok {c : Code} {f : SS → Tr} {cur : Nat} {S : SS} {e : Env} {t : Tr} (hf : CodeOk P G N B M c f) (hb : S.Bd) (hfk : S.fok e) (hs : (loopR N B f cur S t).safe M e) : AWp P G (.loop c) (Post G N B M (loopR N B f cur S t) e S.k) (S.den G N B e) := by
 unfold loopR at hs ⊢
 generalize fixJ N f cur S 6 ⟨slotsL S N 0, S.h, S.n, []⟩ t = Jt at hs ⊢
 obtain ⟨J, t⟩ := Jt
 simp only [loopF] at hs ⊢
 split at hs
 ·split at hs
  ·unfold fbT at hs ⊢
   split at hs
   ·exact AWp.rounds _ (unroll_ok hf _ hb hfk hs fun _ _ h => h)
   ·exact lp_ok hf hb hfk hs
  ·exact lp_ok hf hb hfk hs
 ·rename_i s x _
  split at hs
  ·rename_i hx
   obtain ⟨_, n2⟩ := emit_safe hs
   obtain ⟨a1, a2, a3⟩ := adv_ok (M := M) (G := G) (N := N) (B := B) hb hfk hx
   have := lp_ok hf a1 a2 n2
   rw [a3] at this
   exact AWp.mono this fun ex st hp => hp.sub (by rw [emit_run]) (envX_agr (Nat.le_refl _)) (Nat.le_add_right _ _)
  ·exact hs.elim
 ·exact lg_ok hf hb hfk hs
theorem loop_ok : LoopOk P G N B M (loopT N B) := by
 intro c f cur hf S e hb hfk hs
 unfold loopT loopQ at hs ⊢
 generalize f S = t at hs ⊢
 split at hs
 ·split at hs
  ·exact loopR_ok hf hb hfk hs
  ·rename_i q qs _
   obtain ⟨h1, h2, h3, h4⟩ := addBox_ok (P := P) (G := G) (N := N) (B := B) (c := .loop c) (Q := Post G N B M (loopR N B f cur (addBox B (q :: qs) S) (f (addBox B (q :: qs) S))) e S.k) (e := e) (q :: qs) hb hfk
   refine h4 ?_
   have := loopR_ok hf h1 h2 hs
   rw [h3] at this
   exact this
 ·rename_i p r _
  generalize boxsIn S t.allS S.h = bs at hs ⊢
  obtain ⟨g1, g2, g3, g4⟩ := addRows_ok (P := P) (G := G) (N := N) (B := B) (c := .loop c) (Q := Post G N B M (loopR N B f cur (addBox B bs (addRows N B (p :: r) S)) (f (addBox B bs (addRows N B (p :: r) S)))) e S.k) (e := e) (p :: r) hb hfk
  obtain ⟨h1, h2, h3, h4⟩ := addBox_ok (P := P) (G := G) (N := N) (B := B) (c := .loop c) (Q := Post G N B M (loopR N B f cur (addBox B bs (addRows N B (p :: r) S)) (f (addBox B bs (addRows N B (p :: r) S)))) e S.k) (e := e) bs g1 g2
  refine g4 (h4 ?_)
  have := loopR_ok hf h1 h2 hs
  rw [h3, g3] at this
  exact this
end
end Go.Av
namespace Go.Av
open Go

def waitsOn (ops : Array Oper) (m : List Bool) (i : Nat) (D : List Nat) (j : Nat) : Bool :=
 !(m.toArray.getD j true) && (!(Nat.beq j i) && match ops[j]? with
  | some o => o.after.any fun e => Region.binds .any e && (e.on == i || D.contains e.on)
  | none => false)
def waitP (ops : Array Oper) (m : List Bool) (i : Nat) : List Nat → List Nat → List Nat
 | [], D => D
 | j :: r, D => match waitsOn ops m i D j with
  | true => waitP ops m i r (j :: D)
  | false => waitP ops m i r D
def dfree (ops : Array Oper) (wr : List Bool) (m : List Bool) (i : Nat) : Bool :=
 match waitP ops m i (List.range ops.size) [] with
 | D => !(wr.getD i false) && (D.all (waitsOn ops m i D) && (List.range ops.size).all fun j => !(wr.getD j false) || (m.toArray.getD j true || D.contains j))
section
variable {P : Program} {ops : Array Oper} {Q : Exit → Act → World → Prop} {S : World → Prop} {wr : Nat → Bool}
theorem wpAnyK_firstD {i : Nat} {oi : Oper} {v : Value} (hi : ops[i]? = some oi) (hwi : wr i = false) (hsel : ∀ (j : Nat) (o : Oper) cs b, ops[j]? = some o → o.op ≠ .select cs b)
    (hQ : ∀ c a w, Q (.panic c) (a.put oi.dst v) w → Q (.panic c) a w) (D : Nat → Prop) :
    ∀ (fuel : Nat) (listed : Array Bool) (a : Act) (w : World),
      (∀ j oj, ops[j]? = some oj → j ≠ i → listed.getD j true = false → (∀ e ∈ oj.after, Region.binds .any e = true → e.on ≠ i) → oi.apart ops oj = true) →
      (∀ j oj, ops[j]? = some oj → wr j = true → listed.getD j true = false → D j) →
      (∀ j, D j → listed.getD j true = false ∧ j ≠ i ∧ ∃ oj, ops[j]? = some oj ∧ ∃ e ∈ oj.after, Region.binds .any e = true ∧ (e.on = i ∨ D e.on)) →
      i ∈ Region.ready .any ops listed → YieldsIf P ops S oi v a → S w →
      wpAnyK P ops Q S wr fuel (listed.setIfInBounds i true) (a.put oi.dst v) w → wpAnyK P ops Q S wr (fuel + 1) listed a w := by
  intro fuel
  induction fuel with
  | zero =>
    intro listed a w _ _ _ hr hy hS H
    refine ⟨fun h => (by rw [h] at hr; cases hr), fun j hj => ?_⟩
    by_cases hji : j = i
    · subst hji; exact hy.wpOp hi hS (.inr ⟨hwi, hS, H⟩)
    · have := ready_mono hj hji
      rw [H.1] at this
      cases this
  | succ fuel ih =>
    intro listed a w hfree hwr hD hr hy hS H
    refine ⟨fun h => (by rw [h] at hr; cases hr), fun j hj => ?_⟩
    by_cases hji : j = i
    · subst hji; exact hy.wpOp hi hS (.inr ⟨hwi, hS, H⟩)
    · have h1 := H.2 j (ready_mono hj hji)
      obtain ⟨hjun, oj, hoj, hall⟩ := mem_ready.1 hj
      have un : ∀ k, listed.getD k true = false → ∀ e ∈ oj.after, Region.binds .any e = true → e.on ≠ k := fun k hk e he hb heq => by
        have h1 := hall e he hb
        rw [heq] at h1
        rcases Nat.lt_or_ge k listed.size with h' | h'
        · simp [h'] at hk h1; rw [hk] at h1; cases h1
        · simp [Array.getElem?_eq_none h'] at h1
      have hnot : ∀ e ∈ oj.after, Region.binds .any e = true → e.on ≠ i := un i (mem_ready.1 hr).1
      have hjD : ¬ D j := fun hd => by
        obtain ⟨_, _, oj', hoj', e, he, hb, hh⟩ := hD j hd
        rw [hoj] at hoj'
        cases hoj'
        rcases hh with hh | hh
        · exact hnot e he hb hh
        · exact un e.on (hD _ hh).1 e he hb rfl
      have hwj : wr j = false := by
        cases hw : wr j with
        | false => rfl
        | true => exact absurd (hwr j oj hoj hw hjun) hjD
      have h1 := wpOp_mono (K' := fun a' w' => S w' ∧ wpAnyK P ops Q S wr fuel ((listed.setIfInBounds i true).setIfInBounds j true) a' w') (fun a' w' h' => by
        rcases h' with ⟨h', _⟩ | ⟨_, h'⟩
        · rw [hwj] at h'; cases h'
        · exact h') h1
      have h2 := wpOp_putIf hoj (hfree j oj hoj hji hjun hnot) (fun cs b => hsel i oi cs b hi) (fun cs b => hsel j oj cs b hoj) hQ hy h1
      have low : ∀ k, (listed.setIfInBounds j true).getD k true = false → listed.getD k true = false := fun k hun => by
        by_cases hjk : j = k
        · subst hjk; exact hjun
        · rw [getD_set_ne true hjk] at hun; exact hun
      have hfree' : ∀ k ok, ops[k]? = some ok → k ≠ i → (listed.setIfInBounds j true).getD k true = false →
          (∀ e ∈ ok.after, Region.binds .any e = true → e.on ≠ i) → oi.apart ops ok = true := fun k ok hk hki hun hno => hfree k ok hk hki (low k hun) hno
      have hD' : ∀ k, D k → (listed.setIfInBounds j true).getD k true = false ∧ k ≠ i ∧ ∃ ok, ops[k]? = some ok ∧ ∃ e ∈ ok.after, Region.binds .any e = true ∧ (e.on = i ∨ D e.on) := fun k hk => by
        obtain ⟨g1, g2⟩ := hD k hk
        refine ⟨?_, g2⟩
        have hjk : j ≠ k := fun hh => hjD (by rw [hh]; exact hk)
        rw [getD_set_ne true hjk]
        exact g1
      refine wpOp_mono (fun a' w' h3 => .inr ⟨hwj, h3.2.1, ih (listed.setIfInBounds j true) a' w' hfree' (fun k ok hk hw hun => hwr k ok hk hw (low k hun)) hD' (ready_mono hr (Ne.symm hji)) h3.1 h3.2.1 ?_⟩) h2
      rw [Array.setIfInBounds_comm _ _ hji]
      exact h3.2.2
theorem wpAnyK_firstY {i : Nat} {oi : Oper} {v : Value} (hi : ops[i]? = some oi) (hwi : wr i = false) (hsel : ∀ (j : Nat) (o : Oper) cs b, ops[j]? = some o → o.op ≠ .select cs b)
    (hQ : ∀ c a w, Q (.panic c) (a.put oi.dst v) w → Q (.panic c) a w) :
    ∀ (fuel : Nat) (listed : Array Bool) (a : Act) (w : World),
      (∀ j oj, ops[j]? = some oj → j ≠ i → listed.getD j true = false → (∀ e ∈ oj.after, Region.binds .any e = true → e.on ≠ i) → oi.apart ops oj = true) →
      i ∈ Region.ready .any ops listed → Yields P ops oi v a → S w →
      wpAnyK P ops Q S wr fuel (listed.setIfInBounds i true) (a.put oi.dst v) w → wpAnyK P ops Q S wr (fuel + 1) listed a w := by
  intro fuel
  induction fuel with
  | zero =>
    intro listed a w _ hr hy hS H
    refine ⟨fun h => (by rw [h] at hr; cases hr), fun j hj => ?_⟩
    by_cases hji : j = i
    · subst hji; exact hy.yieldsIf.wpOp hi hS (.inr ⟨hwi, hS, H⟩)
    · have := ready_mono hj hji
      rw [H.1] at this
      cases this
  | succ fuel ih =>
    intro listed a w hfree hr hy hS H
    refine ⟨fun h => (by rw [h] at hr; cases hr), fun j hj => ?_⟩
    by_cases hji : j = i
    · subst hji; exact hy.yieldsIf.wpOp hi hS (.inr ⟨hwi, hS, H⟩)
    · have h1 := H.2 j (ready_mono hj hji)
      obtain ⟨hjun, oj, hoj, hall⟩ := mem_ready.1 hj
      have hnot : ∀ e ∈ oj.after, Region.binds .any e = true → e.on ≠ i := fun e he hb heq => by
        have h1 := hall e he hb
        have h0 := (mem_ready.1 hr).1
        rw [heq] at h1
        rcases Nat.lt_or_ge i listed.size with h' | h'
        · simp [h'] at h0 h1; rw [h0] at h1; cases h1
        · simp [Array.getElem?_eq_none h'] at h1
      have h2 := wpOp_put hoj (hfree j oj hoj hji hjun hnot) (fun cs b => hsel i oi cs b hi) (fun cs b => hsel j oj cs b hoj) hQ hy h1
      have low : ∀ k, (listed.setIfInBounds j true).getD k true = false → listed.getD k true = false := fun k hun => by
        by_cases hjk : j = k
        · subst hjk; exact hjun
        · rw [getD_set_ne true hjk] at hun; exact hun
      have hfree' : ∀ k ok, ops[k]? = some ok → k ≠ i → (listed.setIfInBounds j true).getD k true = false →
          (∀ e ∈ ok.after, Region.binds .any e = true → e.on ≠ i) → oi.apart ops ok = true := fun k ok hk hki hun hno => hfree k ok hk hki (low k hun) hno
      refine wpOp_mono (fun a' w' ⟨hy', h3⟩ => ?_) h2
      rcases h3 with ⟨hw, h3⟩ | ⟨hw, hS', h3⟩
      · refine .inl ⟨hw, wpAny_first hi hsel hQ fuel _ a' w' hfree' (ready_mono hr (Ne.symm hji)) hy' ?_⟩
        rw [Array.setIfInBounds_comm _ _ hji]
        exact h3
      · refine .inr ⟨hw, hS', ih (listed.setIfInBounds j true) a' w' hfree' (ready_mono hr (Ne.symm hji)) hy' hS' ?_⟩
        rw [Array.setIfInBounds_comm _ _ hji]
        exact h3
end

section
variable {P : Program} {G : Glob} {Q : Exit → St → Prop} {L : List Oper} {wr : List Bool}
theorem KD.takeD {fuel : Nat} {m : List Bool} {s s' : St} (i : Nat) {o : Oper} (ho : L[i]? = some o) (hp : LStep P G L.toArray o s s') (k : KD P G L Q wr fuel (m.set i true) s') (hs : Region.noSelect L.toArray = true)
    (hf : Region.free .any L.toArray m.toArray i = true) (hr : (Region.ready .any L.toArray m.toArray).contains i = true) (hw : dfree L.toArray wr m i = true) : KD P G L Q wr (fuel + 1) m s := by
  intro E a w hrel
  obtain ⟨v, hv, hrel'⟩ := hp E a w hrel
  unfold dfree at hw
  simp only at hw
  generalize hD : waitP L.toArray m i (List.range L.toArray.size) [] = D at hw
  simp only [Bool.and_eq_true] at hw
  obtain ⟨h1, h2, h3⟩ := hw
  refine wpAnyK_firstD (i := i) (oi := o) (v := v) (by simpa using ho) (by simpa using h1) (Region.noSelect_spec hs) (fun c a w hq => ?_) (fun j => D.contains j = true) fuel m.toArray a w (Region.free_spec (by simpa using ho) hf) (fun j oj hoj hwj hun => ?_) (fun j hj => ?_) (by simpa using hr) hv (Kp.refl w) (by simpa using k E _ w hrel')
  · obtain ⟨_, ⟨h, _⟩, _⟩ := hq
    cases h
  · have := List.all_eq_true.1 h3 j (List.mem_range.2 (Array.getElem?_eq_some_iff.1 hoj).1)
    rw [hwj, hun] at this
    simpa using this
  · have hm : j ∈ D := by simpa using hj
    have := List.all_eq_true.1 h2 j hm
    unfold waitsOn at this
    simp only [Bool.and_eq_true, Bool.not_eq_true'] at this
    obtain ⟨g1, g2, g3⟩ := this
    refine ⟨g1, fun hh => (by rw [hh, Nat.beq_refl] at g2; cases g2), ?_⟩
    cases hoj : L.toArray[j]? with
    | none => rw [hoj] at g3; cases g3
    | some oj =>
      rw [hoj] at g3
      obtain ⟨e, he, hb⟩ := Array.any_eq_true'.1 g3
      simp only [Bool.and_eq_true, Bool.or_eq_true, beq_iff_eq] at hb
      exact ⟨oj, rfl, e, he, hb⟩
theorem KD.takeY {fuel : Nat} {m : List Bool} {s s' : St} (i : Nat) {o : Oper} (ho : L[i]? = some o) (hp : PStep P G L.toArray o s s') (k : KD P G L Q wr fuel (m.set i true) s') (hs : Region.noSelect L.toArray = true)
    (hf : Region.free .any L.toArray m.toArray i = true) (hr : (Region.ready .any L.toArray m.toArray).contains i = true) (hw : wr.getD i false = false) : KD P G L Q wr (fuel + 1) m s := by
  intro E a w hrel
  obtain ⟨v, hv, hrel'⟩ := hp E a w hrel
  refine wpAnyK_firstY (i := i) (oi := o) (v := v) (by simpa using ho) hw (Region.noSelect_spec hs) (fun c a w hq => ?_) fuel m.toArray a w (Region.free_spec (by simpa using ho) hf) (by simpa using hr) hv (Kp.refl w) (by simpa using k E _ w hrel')
  obtain ⟨_, ⟨h, _⟩, _⟩ := hq
  cases h
theorem KD.any {fuel : Nat} {m : List Bool} {s : St} (hne : Region.ready .any L.toArray m.toArray ≠ []) (h : ∀ i ∈ Region.ready .any L.toArray m.toArray, ∃ o, L[i]? = some o ∧ ∃ A : St → Prop, (∀ t, A t → KD P G L Q wr fuel (m.set i true) t) ∧
      ∀ E a w, Rel E G s a w → (Region.wanted o (yielded L.toArray a.tmps) = true ∧ ∀ (K : Act → World → Prop) (Q : Exit → Act → World → Prop), (∀ t, A t → ∀ a' w', Rel E G t a' w' → (wr.getD i false = true ∨ Kp w w') → K a' w') → o.wp P a w K Q) ∨ (wr.getD i false = false ∧ Region.wanted o (yielded L.toArray a.tmps) = false ∧ ∃ t, A t ∧ Rel E G t (a.put o.dst undef) w)) : KD P G L Q wr (fuel + 1) m s := by
  intro E a w hr
  refine ⟨fun hn => absurd hn hne, fun j hj => ?_⟩
  obtain ⟨o, ho, A, k, hs⟩ := h j hj
  have hset : m.toArray.setIfInBounds j true = (m.set j true).toArray := by simp
  have next : ∀ t, A t → ∀ a' w', Rel E G t a' w' → (wr.getD j false = true ∨ Kp w w') → (wr.getD j false = true ∧ wpAny P .any L.toArray (lift E G (NQ Q)) fuel (m.toArray.setIfInBounds j true) a' w') ∨ (wr.getD j false = false ∧ Kp w w' ∧ wpAnyK P L.toArray (lift E G (NQ Q)) (Kp w) (fun i => wr.getD i false) fuel (m.toArray.setIfInBounds j true) a' w') := fun t ht a' w' hr' hk => by
    rw [hset]
    cases hw : wr.getD j false with
    | true => exact .inl ⟨rfl, (k t ht).ad E a' w' hr'⟩
    | false =>
      rcases hk with hk | hk
      · rw [hw] at hk; cases hk
      · exact .inr ⟨rfl, hk, wpAnyK_mono (fun w2 h2 => hk.trans h2) _ _ _ _ (k t ht E a' w' hr')⟩
  unfold wpOp
  rw [show L.toArray[j]? = some o from by simpa using ho]
  simp only
  rcases hs E a w hr with ⟨hwt, h3⟩ | ⟨hw, hwt, t, h4, h3⟩
  · rw [if_pos hwt]
    exact .inl (h3 _ _ next)
  · rw [if_neg (by rw [hwt]; decide)]
    exact next t h4 _ _ h3 (.inr (Kp.refl w))
end

section
variable {P : Program} {G : Glob} {N B : Nat} {M : List Md}
theorem RelAt.later {E : Entry} {s : St} {a : Act} {w w1 : World} {β : Nat → Value} {ro : Nat → Prop} (h : RelAt E G s a w β ro) (hk : Kp w w1) : RelAt ⟨w1, ro, s.heap, β, E.n⟩ G s a w1 β ro := by
 have hsz : w.heap.size ≤ w1.heap.size := by
  rcases Nat.eq_zero_or_pos w.heap.size with h0 | h0
  ·omega
  ·have h1 := hk (w.heap.size - 1) (by omega)
   rcases Nat.lt_or_ge (w.heap.size - 1) w1.heap.size with h2 | h2
   ·omega
   ·rw [Array.getElem?_eq_none h2, Array.getElem?_eq_getElem (by omega)] at h1
    cases h1
 have hw : ∀ b, ro b → w1.heap[b]? = w.heap[b]? := fun b hb => hk b (h.heap.lt b hb)
 refine ⟨h.defers, h.size, fun i x hx => (h.slot i x hx).keep hw (fun _ h => h) (Nat.le_refl _) (fun _ t cs hg => ⟨rfl, t, cs, hg⟩) (fun _ z t _ es hg => ⟨rfl, z, t, es, hg⟩) (fun _ Φ hg => ⟨rfl, Φ, hg⟩),
  ⟨fun id ob hg => (h.heap.objs id ob hg).keep hw (fun _ h => h) (Nat.le_refl _) hsz rfl (fun hl b hb => hk b ((h.heap.objs id ob hg).blkLt hl hb)) (fun _ t cs hg => ⟨rfl, t, cs, hg⟩) (fun _ z t _ es hg => ⟨rfl, z, t, es, hg⟩) (fun _ Φ hg => ⟨rfl, Φ, hg⟩), h.heap.inj, h.heap.disj, fun b hb => Nat.lt_of_lt_of_le (h.heap.lt b hb) hsz⟩,
  h.glob.keep hw fun _ h => h, ⟨rfl, rfl, rfl, Nat.le_refl _, fun _ _ _ => rfl, fun b hb => .inl hb, fun b hb => hb, fun b hb => .inl hb, fun id hi o hg => ⟨by rw [hg]; simp, rfl⟩, h.trans.new, h.trans.le⟩, h.base⟩
theorem arel_v {w : World} {ro : Nat → Prop} {σ : Heap} {β : Nat → Value} {n : Nat} {x : Value} {c : Value} (h : ARel w ro σ β n (.rv (.v x)) c) : c = x := by
 cases h with
 | rv _ _ h =>
  cases h
  rfl
theorem LStep.vstep {ops : Array Oper} {o : Oper} {s : St} {x : Value} (h : VStep P G o s (.rv (.v x))) (hg : gwant ops s o = some true) : LStep P G ops o s (s.put o.dst (.rv (.v x))) := by
 intro E a w ⟨β, ro, hr⟩
 have hw := wanted_of (ops := ops) ⟨β, ro, hr⟩ hg
 obtain ⟨c, _, h2⟩ := h E a w β ro hr
 refine ⟨x, .inl ⟨hw, fun w1 hk => ?_⟩, β, ro, hr.put _ _ _ (by rw [arel_v h2] at h2; exact h2)⟩
 obtain ⟨c1, h3, h4⟩ := h _ a w1 β ro (hr.later hk)
 rw [arel_v h4] at h3
 exact h3
def KSet (P : Program) (G : Glob) (ops : Array Oper) (o : Oper) (s : St) (A : St → Prop) : Prop := ∀ E a w, Rel E G s a w →
 (Region.wanted o (yielded ops a.tmps) = true ∧ ∀ (K : Act → World → Prop) (Q : Exit → Act → World → Prop), (∀ t, A t → ∀ a' w', Rel E G t a' w' → Kp w w' → K a' w') → o.wp P a w K Q) ∨
 (Region.wanted o (yielded ops a.tmps) = false ∧ ∃ t, A t ∧ Rel E G t (a.put o.dst undef) w)
theorem KSet.v {ops : Array Oper} {o : Oper} {s : St} {v : AV} {A : St → Prop} (h : VStep P G o s v) (hg : gwant ops s o = some true) (hA : A (s.put o.dst v)) : KSet P G ops o s A := fun E a w hr =>
 .inl ⟨wanted_of hr hg, fun K Q hK => h.kstep E a w hr K Q fun a' w' hr' hk => hK _ hA a' w' hr' hk⟩
theorem KSet.no {ops : Array Oper} {o : Oper} {s : St} {A : St → Prop} (hg : gwant ops s o = some false) (hA : A (s.put o.dst (.tuple []))) : KSet P G ops o s A := fun E a w hr =>
 .inr ⟨wanted_of hr hg, _, hA, hr.putUndef o.dst⟩
theorem KD.one {L : List Oper} {Q : Exit → St → Prop} {wr : List Bool} {fuel : Nat} {m : List Bool} {s : St} {A : St → Prop} {i : Nat} {o : Oper} (ho : L[i]? = some o) (h : Region.ready .any L.toArray m.toArray = [i]) (hw : wr.getD i false = false)
    (hs : KSet P G L.toArray o s A) (k : ∀ t, A t → KD P G L Q wr fuel (m.set i true) t) : KD P G L Q wr (fuel + 1) m s := by
  intro E a w hr
  refine ⟨fun hn => (by rw [h] at hn; cases hn), fun j hj => ?_⟩
  rw [h] at hj
  rcases List.mem_cons.1 hj with rfl | hj
  rotate_left
  · cases hj
  have hset : m.toArray.setIfInBounds j true = (m.set j true).toArray := by simp
  have next : ∀ t, A t → ∀ a' w', Rel E G t a' w' → Kp w w' → wr.getD j false = false ∧ Kp w w' ∧ wpAnyK P L.toArray (lift E G (NQ Q)) (Kp w) (fun i => wr.getD i false) fuel (m.toArray.setIfInBounds j true) a' w' := fun t ht a' w' hr' hk => by
    rw [hset]
    exact ⟨hw, hk, wpAnyK_mono (fun w2 h2 => hk.trans h2) _ _ _ _ (k t ht E a' w' hr')⟩
  unfold wpOp
  rw [show L.toArray[j]? = some o from by simpa using ho]
  simp only
  rcases hs E a w hr with ⟨hwt, h3⟩ | ⟨hwt, t, h4, h3⟩
  · rw [if_pos hwt]
    exact .inl (h3 _ _ fun t ht a' w' hr' hk => .inr (next t ht a' w' hr' hk))
  · rw [if_neg (by rw [hwt]; decide)]
    exact .inr (next t h4 _ _ h3 (Kp.refl w))
def OSet (P : Program) (G : Glob) (ops : Array Oper) (o : Oper) (s : St) (A : St → Prop) : Prop := ∀ E a w, Rel E G s a w →
 Region.wanted o (yielded ops a.tmps) = true ∧ ∀ (K : Act → World → Prop) (Q : Exit → Act → World → Prop), (∀ t, A t → ∀ a' w', Rel E G t a' w' → K a' w') → o.wp P a w K Q
theorem KD.oneW {L : List Oper} {Q : Exit → St → Prop} {wr : List Bool} {fuel : Nat} {m : List Bool} {s : St} {A : St → Prop} {i : Nat} {o : Oper} (ho : L[i]? = some o) (h : Region.ready .any L.toArray m.toArray = [i]) (hw : wr.getD i false = true)
    (hs : OSet P G L.toArray o s A) (k : ∀ t, A t → KD P G L Q wr fuel (m.set i true) t) : KD P G L Q wr (fuel + 1) m s := by
  intro E a w hr
  refine ⟨fun hn => (by rw [h] at hn; cases hn), fun j hj => ?_⟩
  rw [h] at hj
  rcases List.mem_cons.1 hj with rfl | hj
  rotate_left
  · cases hj
  have hset : m.toArray.setIfInBounds j true = (m.set j true).toArray := by simp
  have next : ∀ t, A t → ∀ a' w', Rel E G t a' w' → wr.getD j false = true ∧ wpAny P .any L.toArray (lift E G (NQ Q)) fuel (m.toArray.setIfInBounds j true) a' w' := fun t ht a' w' hr' => by
    rw [hset]
    exact ⟨hw, (k t ht).ad E a' w' hr'⟩
  unfold wpOp
  rw [show L.toArray[j]? = some o from by simpa using ho]
  simp only
  obtain ⟨hwt, h3⟩ := hs E a w hr
  rw [if_pos hwt]
  exact .inl (h3 _ _ fun t ht a' w' hr' => .inl (next t ht a' w' hr'))
theorem KSet.call {ops : Array Oper} {o : Oper} {s : St} {x : Operand} {xs : Array Operand} {ts : Array TypeId} (ho : o.op = .call { callee := .value x, args := xs, argTypes := ts }) {f : FuncId} {p q : List AV} (hx : aval G s x = .fn (.func f) p q) (hcb : callable P f = true)
    (hg : gwant ops s o = some true) (hpure : pureL (p ++ xs.toList.map (aval G s) ++ q) = true) {R : AV → Heap → Prop} (hc : ACalls P G f (p ++ xs.toList.map (aval G s) ++ q) [] 0 R) {A : St → Prop} (hR : ∀ r τ, R r τ → pureA r = true ∧ A (s.put o.dst r)) : KSet P G ops o s A := by
  intro E a w ⟨β, ro, h⟩
  refine .inl ⟨wanted_of ⟨β, ro, h⟩ hg, fun K Q hK => ?_⟩
  have hfx := h.eval x
  rw [hx] at hfx
  generalize he : a.eval x = fv at hfx
  cases hfx with
  | fn _ _ _ c d h1 h2 hpp hqq =>
    unfold Oper.wp
    simp only [execOp, ho, resolve, he, Deferred.ofValue, Sem.run_bind, Sem.run_pure, Result.andThen_ok, invoke]
    rw [callable_run hcb]
    have hcall := hc w β ro (c ++ xs.map a.eval ++ d) (by simp [h1, h2, Nat.add_assoc]) (fun i y hy => pure_rel (args_rel (x := x) (f := .func f) h h1 h2 hpp hqq i y hy) (pureL_at hpure hy))
      ⟨by simp [hget], by simp [hget], fun b _ ⟨_, _, hg, _⟩ => by simp [hget] at hg, h.heap.lt⟩ h.glob (by simp [hget])
    refine Calls.mono hcall fun e w' hq => ?_
    obtain ⟨v, r, τ, β', ro', n', rfl, hr, hrel, hh', ht'⟩ := hq
    obtain ⟨hpr, hA⟩ := hR r τ hr
    have noOwn : ∀ b, ¬ Own ([] : Heap) β b := fun b ⟨_, _, hg, _⟩ => by simp [hget] at hg
    have hframe : ∀ b, b < w.heap.size → w'.heap[b]? = w.heap[b]? := fun b hb => ht'.frame b hb (noOwn b)
    have hgr := h.grow (w' := w') (ro' := ro') ht'.os ht'.tape ht'.output ht'.size hframe ht'.roKeep (fun b hb => by
      rcases ht'.roSub b hb with q | q | q
      · exact .inl q
      · exact absurd q (noOwn b)
      · exact .inr ⟨q, hh'.lt b hb⟩)
    exact hK _ hA _ _ ⟨β, ro', hgr.put o.dst r v (pure_rel hrel hpr)⟩ hframe
theorem AWp.drawnK {id : Nat} {L : List Oper} {Q : Exit → St → Prop} {wr : List Bool} {s : St} (n : Nat) (h : KD P G L Q wr n (List.replicate n false) s) (hP : P.follows .mixedOrders = true) (hn : Nat.beq L.length n = true) : AWp P G (.region id L.toArray true) Q s := AWp.drawnD n h.ad hP hn
end
end Go.Av
