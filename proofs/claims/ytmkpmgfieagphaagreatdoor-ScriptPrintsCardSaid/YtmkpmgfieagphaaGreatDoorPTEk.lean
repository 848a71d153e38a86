/- TE, part E: contracts out of trees, of functions that are handed an own box. Conditions: none. -/
import Derived.Test.YtmkpmgfieagphaaGreatDoorPTEd
import Derived.Test.YtmkpmgfieagphaaGreatDoorPTDb
import Derived.ProofKit
import Derived.LaidMore
import Derived.OpenShut
import Derived.MakeChecks
import Derived.ChangeArms
import Derived.ReadAgain
import Derived.ChangeBears
import Derived.Stop.Joined
import Derived.SizedLaws
namespace Go.Av
open Go

section
variable {P : Program} {G : Glob} {f : FuncId} {args : List AV} {t : TypeId} {σ : Heap} {R : AV → Heap → Prop}
theorem ACalls.retB (h : ACalls P G f args σ 1 R) {Q : AV → List AV → Prop} (hR : ∀ r τ, R r τ → ∃ v cs0 cs, hget τ 0 = some (.box t cs0) ∧ SubA cs0 cs ∧ pureL cs = true ∧ Sub r v ∧ pureA v = true ∧ Q v cs) :
    ACalls P G f args σ 1 fun v τ => ∃ cs, τ = [(0, .box t cs)] ∧ Q v cs := by
  intro w β ro cargs h1 h2 h3 h4 h5
  refine Calls.mono (h w β ro cargs h1 h2 h3 h4 h5) fun e w' ⟨v, r, τ, β', ro', n', he, hr, hrel, hh', ht'⟩ => ?_
  obtain ⟨u, cs0, cs, hg, hsub, hp, hu, hpu, hq⟩ := hR r τ hr
  have at0 : ∀ {id : Nat} {o : AObj}, hget [(0, AObj.box t cs)] id = some o → id = 0 ∧ o = .box t cs := fun {id o} hg => by
    simp only [hget] at hg
    split at hg
    · rename_i hi; cases hg; exact ⟨hi.symm, rfl⟩
    · cases hg
  have own : ∀ b, Own [(0, AObj.box t cs)] β' b → Own τ β' b := fun b ⟨id, o, hgo, _, hb⟩ => by
    obtain ⟨rfl, rfl⟩ := at0 hgo
    exact ⟨0, _, hg, rfl, hb⟩
  refine ⟨v, u, [(0, .box t cs)], β', ro', n', he, ⟨cs, rfl, hq⟩, pure_rel (hu _ _ _ _ _ _ hrel) hpu, ⟨fun id o hgo => ?_, fun id id' o o' b hgo hgo' _ _ _ _ => ?_, fun b hb ho => hh'.disj b hb (own b ho), hh'.lt⟩,
    ⟨ht'.os, ht'.tape, ht'.output, ht'.size, ht'.frame, ht'.roSub, ht'.roKeep, fun b hb => ht'.ownSub b (own b hb), fun id hid o hgo => ?_, fun id o hgo => ?_, ht'.le⟩⟩
  · obtain ⟨rfl, rfl⟩ := at0 hgo
    have hO := hh'.objs 0 _ hg
    cases hO with
    | box _ _ b arr e1 e2 e3 e4 =>
      refine .box t cs b arr e1 e2 (by rw [e3, hsub.at.1]) fun j x hj => ?_
      obtain ⟨y, hy, hs⟩ := hsub.at.2 j x hj
      exact pure_rel (hs _ _ _ _ _ _ (e4 j y hy)) (pureL_at hp hj)
  · rw [(at0 hgo).1, (at0 hgo').1]
  · obtain ⟨rfl, rfl⟩ := at0 hgo
    exact ht'.old 0 hid _ hg
  · obtain ⟨rfl, rfl⟩ := at0 hgo
    exact ht'.new 0 _ hg
end

def S0B (t : TypeId) (c : TC) (n : Nat) : SS := ⟨.emp, [(0, .bx t (fsOf c 0 0 (fT c)))], 1, n + 1, []⟩
def resCB (t : TypeId) (c : TC) (rs : List Rt) (C : SS) : Option (List SV) :=
 match getH C.h 0 with
 | some (.bx t' l) => match (Nat.beq t' t && isL (fT c) l) && (tupR rs (C.at 0) && noSl (partsR rs (C.at 0))) with
  | true => match argVs C rs (partsR rs (C.at 0)) with
   | some xs => some (.ag l :: xs)
   | none => none
  | false => none
 | _ => none
def endOkB (t : TypeId) (c : TC) (rs : List Rt) (C : SS) : Bool := (resCB t c rs C).isSome
def resMB (t : TypeId) (c : TC) (rs : List Rt) (C : SS) (e : Env) : (pL (.st c :: rs)).den :=
 match resCB t c rs C with
 | some l => pkL (.st c :: rs) (valL e (.st c :: rs) l)
 | none => (pL (.st c :: rs)).dflt
def modelB (M : List Md) (T : Tr) (t : TypeId) (c : TC) (rs : List Rt) (e : Env) : (pL (.st c :: rs)).den := T.fold2 M e (fun _ C e' => resMB t c rs C e') (pL (.st c :: rs)).dflt
section
variable {P : Program} {G : Glob} {M : List Md} {inl : Nat → List SV → SS → Tr}
theorem fsOf_ltL {c : TC} {i k : Nat} (h : i < k) : SV.ltL k (fsOf c i 0 (fT c)) = true := fsOf_lt h
theorem resT_sub {rs : List Rt} {S : SS} {e : Env} {xs : List SV} (ht : tupR rs (S.at 0) = true) (hno : noSl (partsR rs (S.at 0)) = true) (h : argVs S rs (partsR rs (S.at 0)) = some xs) :
    Sub ((S.at 0).den G e) (match (valL e rs xs).map Dyn.av with | [v] => v | l => .tuple l) := by
  obtain ⟨a1, _, a3, a4⟩ := argVs_ok (G := G) (e := e) h
  rw [a3 hno] at a1
  match rs, a1, a4, ht with
  | [r], a1, a4, ht =>
    obtain ⟨d, ds', hv, h1, h2⟩ := map1 a4
    cases map0 h2
    rw [hv] at a1 ⊢
    simp only [partsR, SV.denL, List.map_cons, List.map_nil] at a1 ⊢
    cases a1 with
    | cons h _ => exact h
  | [], a1, a4, ht =>
    cases hv : S.at 0 with
    | tp m =>
      rw [hv] at a1
      rw [map0 a4] at a1 ⊢
      exact a1.tuple
    | _ => rw [hv] at ht; cases ht
  | r :: s :: q, a1, a4, ht =>
    cases hv : S.at 0 with
    | tp m =>
      rw [hv] at a1
      have hl := congrArg List.length a4
      simp only [List.length_map, List.length_cons] at hl
      generalize valL e (r :: s :: q) xs = ds at a1 hl ⊢
      match ds, hl with
      | d :: d2 :: ds, _ => exact a1.tuple
    | _ => rw [hv] at ht; cases ht
theorem md_okB (hI : InlOk P G M inl) {f : Nat} {t : TypeId} {c : TC} {ps rs : List Rt} {pre : Option ((pL (.st c :: ps)).den → Prop)} {mm : (pL (.st c :: ps)).den → (pL (.st c :: rs)).den} (T : Tr) (ht : inl f (.px 0 0 :: svsOf 1 ps) (S0B t c ps.length) = T)
    (he : T.nrms.all (endOkB t c rs) = true) (hs : ∀ x, preOk pre x → T.safe M (envA 0 (upL (.st c :: ps) x))) (hm : ∀ x, modelB M T t c rs (envA 0 (upL (.st c :: ps) x)) = mm x) : MdOkB P G f t ⟨.st c :: ps, .st c :: rs, pre, mm⟩ := fun x hx => by
  subst ht
  obtain ⟨d0, dr, hds, hd0, hdr⟩ := map1 (upL_r (rs := .st c :: ps) (x := x))
  obtain ⟨r0, y0⟩ := d0
  simp only at hd0
  subst hd0
  have hl : dr.length = ps.length := by have := congrArg List.length hdr; rw [List.length_map] at this; exact this
  have hb : (S0B t c ps.length).Bd := ⟨fun i x hi => by simp [S0B, Tri.get] at hi, by
    show (SV.ltL (ps.length + 1) (fsOf c 0 0 (fT c)) && true) = true
    rw [fsOf_ltL (Nat.succ_pos _)]
    rfl, rfl⟩
  have h := hI f (.px 0 0 :: svsOf 1 ps) (S0B t c ps.length) (envA 0 (upL (.st c :: ps) x)) hb (by
    show (true && SV.ltL (ps.length + 1) (svsOf 1 ps)) = true
    rw [svsOf_lt (by omega)]
    rfl) (fun c hc => by cases hc) (hs x hx)
  have hat : ∀ j d, (⟨.st c, y0⟩ :: dr)[j]? = some d → Env.at (envA 0 (upL (.st c :: ps) x)) j = d := fun j d hj => by
    have := envA_at (ds := upL (.st c :: ps) x) (i := 0) (j := j) (d := d) (by rw [hds]; exact hj)
    rwa [Nat.zero_add] at this
  have hd : SV.denL G (envA 0 (upL (.st c :: ps) x)) (svsOf 1 ps) = dr.map Dyn.av := svsOf_den hdr fun j d hj => by rw [Nat.add_comm]; exact hat (j + 1) d (by simpa using hj)
  have hbox : denH G (envA 0 (upL (.st c :: ps) x)) (S0B t c ps.length).h = [(0, .box t ((cT c y0).map .rv))] := by
    have h0 := hat 0 ⟨.st c, y0⟩ rfl
    simp only [S0B, denH, SO.den]
    rw [fs_den, h0, as_mk]
  have hargs : SV.denL G (envA 0 (upL (.st c :: ps) x)) (.px 0 0 :: svsOf 1 ps) = .ptr 0 0 :: dr.map Dyn.av := by
    show AV.ptr 0 0 :: _ = _
    rw [hd]
  rw [hargs, hbox] at h
  show ACalls P G f (.ptr 0 0 :: (upL (.st c :: ps) x).tail.map Dyn.av) [(0, .box t (headC (upL (.st c :: ps) x)))] 1 _
  rw [hds]
  refine ACalls.retB (Q := fun v cs => v = resT (upL (.st c :: rs) (mm x)) ∧ cs = headC (upL (.st c :: rs) (mm x))) h fun r τ hr => ?_
  obtain ⟨S1, e', hrun, rfl, rfl, _⟩ := hr
  have hok := nrms_all he hrun
  obtain ⟨l, hlc⟩ := Option.isSome_iff_exists.1 hok
  have hmx := hm x
  unfold modelB at hmx
  rw [fold2_eq, run_fold hrun] at hmx
  unfold resMB at hmx
  rw [hlc] at hmx
  simp only at hmx
  unfold resCB at hlc
  split at hlc
  rotate_left
  · cases hlc
  rename_i t' bl hg
  split at hlc
  rotate_left
  · cases hlc
  rename_i hc
  simp only [Bool.and_eq_true] at hc
  obtain ⟨⟨c1, c2⟩, c3, c4⟩ := hc
  have c1 := Nat.eq_of_beq_eq_true c1
  subst c1
  split at hlc
  rotate_left
  · cases hlc
  rename_i xs hxs
  cases hlc
  obtain ⟨_, _, _, a4⟩ := argVs_ok (G := G) (e := e') hxs
  have hty : (valL e' (.st c :: rs) (.ag bl :: xs)).map Dyn.r = .st c :: rs := by simp only [valL, List.map_cons, a4]
  rw [← hmx, upL_pkL hty]
  exact ⟨_, _, _, by rw [denH_get, hg]; rfl, isSt_sub c2, pureL_map _, resT_sub c3 c4 hxs, by
    have hp := avL_pure (valL e' rs xs)
    split
    · rename_i v hv
      rw [hv] at hp
      simpa [pureL] using hp
    · exact hp, rfl, rfl⟩
theorem md_cleanB (hI : InlOk P G M inl) {f : Nat} {t : TypeId} {c : TC} {ps rs : List Rt} {mm : (pL (.st c :: ps)).den → (pL (.st c :: rs)).den} (T : Tr) (ht : inl f (.px 0 0 :: svsOf 1 ps) (S0B t c ps.length) = T)
    (he : (T.clean && T.nrms.all (endOkB t c rs)) = true) (hm : ∀ x, modelB M T t c rs (envA 0 (upL (.st c :: ps) x)) = mm x) : MdOkB P G f t ⟨.st c :: ps, .st c :: rs, none, mm⟩ := by
  simp only [Bool.and_eq_true] at he
  exact md_okB hI T ht he.2 (fun _ _ => clean_safe M he.1) hm

end
end Go.Av
namespace Go.Av
open Go Go.ChangeShapes Go.WideShapes Go.RowKit

inductive Sh (P : Program) : TypeId → List RV → Prop where
 | bool {t : TypeId} (b : Bool) : P.underlying t = some .bool → Sh P t [.v (.bool b)]
 | int {t : TypeId} {k : IntKind} (n : Int) : P.underlying t = some (.int k) → (Lit.int k n).wf = true → Sh P t [.v (.int k n)]
 | str {t : TypeId} (s : ByteArray) : P.underlying t = some .string → s.size ≤ reachBytes → Sh P t [.v (.string s)]
 | slice {t e : TypeId} (es : List (List RV)) : P.underlying t = some (.slice e) → es.length ≤ maxLen ∧ es.length * P.bytesOf e ≤ reachBytes → (∀ x ∈ es, Sh P e x) → Sh P t [.sl (P.cellsOf e) es]
 | struct {t : TypeId} {fs : Array Field} (parts : List (List RV)) : P.underlying t = some (.struct fs) → parts.length = fs.toList.length → (∀ (i : Nat) (f : Field) (p : List RV), fs.toList[i]? = some f → parts[i]? = some p → Sh P f.type p) → Sh P t parts.flatten
 | array {t e : TypeId} {n : Nat} (parts : List (List RV)) : P.underlying t = some (.array n e) → parts.length = n → (∀ p ∈ parts, Sh P e p) → Sh P t parts.flatten

def plainTy (P : Program) : Nat → TypeId → Bool
 | 0, _ => false
 | n + 1, t => decide (t < P.types.size) && match P.underlying t with
  | some .bool => true
  | some (.int _) => true
  | some .string => true
  | some (.slice e) => plainTy P n e
  | some (.array _ e) => plainTy P n e
  | some (.struct fs) => fs.toList.all fun f => plainTy P n f.type
  | _ => false

theorem mapM_some {α β : Type} {f : α → Option β} : ∀ {l : List α} {r : List β}, l.mapM f = some r → r.length = l.length ∧ ∀ (i : Nat) (x : α), l[i]? = some x → ∃ y, f x = some y ∧ r[i]? = some y
 | [], r, h => by
  simp at h
  subst h
  exact ⟨rfl, by simp⟩
 | a :: l, r, h => by
  rw [List.mapM_cons] at h
  cases ha : f a with
  | none => simp [ha] at h
  | some b =>
   cases hl : l.mapM f with
   | none => simp [ha, hl] at h
   | some bs =>
    simp [ha, hl] at h
    subst h
    obtain ⟨h1, h2⟩ := mapM_some hl
    refine ⟨by simp [h1], fun i x hx => ?_⟩
    cases i with
    | zero => simp at hx; subst hx; exact ⟨b, ha, rfl⟩
    | succ i => simpa using h2 i x (by simpa using hx)

section
variable {H : Type} {enc : TypeId × Value → H} {P : Program} {w : World}

abbrev allRo (w : World) : Nat → Prop := fun b => b < w.heap.size
theorem cell_lt {a : Addr} {c : Value} (h : w.cell? a = some c) : a.block < w.heap.size := by
 rcases Nat.lt_or_ge a.block w.heap.size with h1 | h1
 ·exact h1
 ·exfalso
  have : w.heap[a.block]? = none := Array.getElem?_eq_none h1
  simp [World.cell?, this] at h

def Fits (P : Program) (w : World) (t : TypeId) (cs : List Value) : Prop := ∃ rs, Sh P t rs ∧ rs.length = cs.length ∧ ∀ j r, rs[j]? = some r → RRel w (allRo w) r (cs.getD j undef)

theorem fields_fit : ∀ (fs : List Field) (off : Nat) (cs : List Value), (∀ (j : Nat) (f : Field), fs[j]? = some f → f.offset = off + ((fs.take j).map fun f => P.cellsOf f.type).sum) →
    (∀ f ∈ fs, Fits P w f.type ((cs.drop f.offset).take (P.cellsOf f.type))) → off + (fs.map fun f => P.cellsOf f.type).sum ≤ cs.length →
    ∃ parts : List (List RV), parts.length = fs.length ∧ (∀ (i : Nat) (f : Field) (p : List RV), fs[i]? = some f → parts[i]? = some p → Sh P f.type p) ∧ parts.flatten.length = (fs.map fun f => P.cellsOf f.type).sum ∧
      ∀ j r, parts.flatten[j]? = some r → RRel w (allRo w) r (cs.getD (off + j) undef)
  | [], off, cs, _, _, _ => ⟨[], rfl, by simp, by simp, by simp⟩
  | f :: fs, off, cs, ho, hf, hl => by
    have h0 : f.offset = off := by have := ho 0 f rfl; simpa using this
    obtain ⟨rs, h1, h2, h3⟩ := hf f (by simp)
    simp only [List.map_cons, List.sum_cons] at hl
    have hlen : rs.length = P.cellsOf f.type := by rw [h2, h0]; simp; omega
    obtain ⟨parts, g1, g2, g3, g4⟩ := fields_fit fs (off + P.cellsOf f.type) cs (fun j q hq => by
      have := ho (j + 1) q (by simpa using hq)
      simp only [List.take_succ_cons, List.map_cons, List.sum_cons] at this
      omega) (fun q hq => hf q (by simp [hq])) (by omega)
    refine ⟨rs :: parts, by simp [g1], fun i q p hq hp => ?_, by simp [g3, hlen], fun j r hj => ?_⟩
    · cases i with
      | zero =>
        simp at hq hp
        subst hq; subst hp
        exact h1
      | succ i => exact g2 i q p (by simpa using hq) (by simpa using hp)
    · rw [List.flatten_cons] at hj
      by_cases hjl : j < rs.length
      · rw [List.getElem?_append_left hjl] at hj
        have := h3 j r hj
        have hjc : j < P.cellsOf f.type := by omega
        rw [h0] at this
        simpa [List.getD, List.getElem?_take, List.getElem?_drop, hjc] using this
      · rw [List.getElem?_append_right (by omega)] at hj
        have := g4 _ r hj
        rw [show off + P.cellsOf f.type + (j - rs.length) = off + j from by omega] at this
        exact this

theorem rows_fit {e : TypeId} (n : Nat) : ∀ (k : Nat) (css : Nat → List Value), (∀ i, i < k → Fits P w e (css i) ∧ (css i).length = n) →
    ∃ es : List (List RV), es.length = k ∧ (∀ x ∈ es, Sh P e x ∧ x.length = n) ∧ ∀ j r, es.flatten[j]? = some r → RRel w (allRo w) r ((css (j / n)).getD (j % n) undef)
  | 0, _, _ => ⟨[], rfl, by simp, by simp⟩
  | k + 1, css, h => by
    obtain ⟨⟨rs, h1, h2, h3⟩, hn⟩ := h 0 (by omega)
    obtain ⟨es, g1, g2, g3⟩ := rows_fit n k (fun i => css (i + 1)) fun i hi => h (i + 1) (by omega)
    refine ⟨rs :: es, by simp [g1], fun x hx => ?_, fun j r hj => ?_⟩
    · rcases List.mem_cons.1 hx with rfl | hx
      · exact ⟨h1, by omega⟩
      · exact g2 x hx
    · rw [List.flatten_cons] at hj
      by_cases hjl : j < rs.length
      · rw [List.getElem?_append_left hjl] at hj
        have hjn : j < n := by omega
        rw [Nat.div_eq_of_lt hjn, Nat.mod_eq_of_lt hjn]
        exact h3 j r hj
      · rw [List.getElem?_append_right (by omega)] at hj
        have := g3 _ r hj
        have hnp : 0 < n := by
          rcases Nat.eq_zero_or_pos n with h0 | h0
          · exfalso
            have hfl : es.flatten.length = es.length * n := length_flatten_of fun x hx => (g2 x hx).2
            have := (List.getElem?_eq_some_iff.1 hj).1
            rw [hfl, h0] at this
            simp at this
          · exact h0
        have e1 : j - rs.length = j - n := by omega
        rw [e1] at this
        have e2 : (j - n) / n + 1 = j / n := (Nat.div_eq_sub_div hnp (by omega)).symm
        have e3 : (j - n) % n = j % n := (Nat.mod_eq_sub_mod (by omega)).symm
        simp only [e2, e3] at this
        exact this

theorem one_fit {t : TypeId} {r : RV} {c : Value} (h : Sh P t [r]) (hr : RRel w (allRo w) r c) : Fits P w t [c] :=
 ⟨[r], h, rfl, fun j x hj => by
  cases j with
  | zero => simp at hj; subst hj; exact hr
  | succ j => simp at hj⟩
theorem cells_some {base : Nat} {a : Addr} {n : Nat} {l : List Value} (h : w.cells? base a n = some l) : l.length = n ∧ ∀ i, i < n → w.cell? (a.add i) = l[i]? := by
 unfold World.cells? at h
 split at h
 ·obtain ⟨h1, h2⟩ := mapM_some h
  refine ⟨by simpa using h1, fun i hi => ?_⟩
  obtain ⟨y, hy, hl⟩ := h2 i i (by simp [hi])
  rw [hl, hy]
 ·cases h

theorem weights_all {e : TypeId} : ∀ {l : List (DataW H)} {d : DataW H}, d ∈ l → ∀ n ∈ d.weights P e, n ∈ DataW.weightsAll P e l
 | d0 :: l, d, hd, n, hn => by
  simp only [DataW.weightsAll, List.mem_append]
  rcases List.mem_cons.1 hd with rfl | hd
  ·exact .inl hn
  ·exact .inr (weights_all hd n hn)
theorem trod_fits (K : Kids P (· < P.types.size)) : ∀ (m n : Nat) (t : TypeId) (cs : List Value) (x : DataW H × List MemPlace) {base : Nat} {sp : Nat → Bool} {held : Bool}, plainTy P m t = true →
    DataW.trod enc P w base sp held n t cs = some x → (∀ q ∈ x.1.weights P t, q ≤ reachBytes) → Fits P w t cs
  | 0, _, _, _, _, _, _, _, hp, _, _ => by simp [plainTy] at hp
  | m + 1, n, t, cs, x, base, sp, held, hp, h, hwt => by
    simp only [plainTy, Bool.and_eq_true, decide_eq_true_eq] at hp
    obtain ⟨hrow, hp⟩ := hp
    cases hu : P.underlying t with
    | none => rw [hu] at hp; cases hp
    | some d =>
      rw [hu] at hp
      cases d with
      | bool =>
        obtain ⟨b, rfl, _⟩ := DataW.trod_bool hu h
        exact one_fit (.bool b hu) (.v _ rfl)
      | int k =>
        obtain ⟨b, rfl, _, hw⟩ := DataW.trod_int hu h
        exact one_fit (.int b hu hw) (.v _ rfl)
      | string =>
        obtain ⟨b, rfl, hx, hw⟩ := DataW.trod_string hu h
        rw [hx] at hwt
        exact one_fit (.str b hu (by simpa [DataW.weights] using hwt)) (.v _ rfl)
      | slice e =>
        rcases DataW.trod_slice hu h with ⟨rfl, _⟩ | ⟨a, len, cap, elems, rest, k, rfl, rfl, hx, _, hle, hcm, hel, hat, _⟩
        · exact one_fit (.slice [] hu ⟨Nat.zero_le _, by simp⟩ (by simp)) (.sl _ [] none 0 (fun _ => undef) (Nat.le_refl _) (Nat.zero_le _) (by simp) (by simp) (by simp))
        · rw [hx] at hwt
          simp only [DataW.weights, hu, List.mem_cons, List.mem_append, List.length_map] at hwt
          have hbytes : len * P.bytesOf e ≤ reachBytes := Nat.le_trans (Nat.mul_le_mul_right _ (by rw [hel]; exact Nat.le_add_right _ _)) (hwt _ (.inl rfl))
          have hcss : ∀ i, i < len → ∃ l, w.cells? base (a.add (i * P.cellsOf e)) (P.cellsOf e) = some l ∧ Fits P w e l := by
            intro i hi
            have h1 := hat i hi
            rw [List.getElem?_eq_getElem (by omega)] at h1
            cases hc : w.cells? base (a.add (i * P.cellsOf e)) (P.cellsOf e) with
            | none => rw [hc] at h1; cases h1
            | some l => rw [hc] at h1; exact ⟨l, rfl, trod_fits K m k e l _ hp h1 fun q hq => hwt q (.inr (.inl (weights_all (List.mem_map_of_mem (List.getElem_mem _)) q hq)))⟩
          obtain ⟨es, g1, g2, g3⟩ := rows_fit (P := P) (w := w) (e := e) (P.cellsOf e) len (fun i => (w.cells? base (a.add (i * P.cellsOf e)) (P.cellsOf e)).getD []) fun i hi => by
            obtain ⟨l, h1, h2⟩ := hcss i hi
            rw [h1]
            exact ⟨h2, (cells_some h1).1⟩
          have hlen : es.length = len := g1
          refine one_fit (.slice es hu ⟨by omega, by rw [hlen]; exact hbytes⟩ fun x hx => (g2 x hx).1) ?_
          rw [← hlen]
          refine .sl _ es (some a) cap (fun j => ((w.cells? base (a.add (j / P.cellsOf e * P.cellsOf e)) (P.cellsOf e)).getD []).getD (j % P.cellsOf e) undef) (by omega) hcm (fun x hx => (g2 x hx).2) (fun _ => ⟨a, rfl, fun j hj => ?_⟩) g3
          have hnp : 0 < P.cellsOf e := by
            rcases Nat.eq_zero_or_pos (P.cellsOf e) with h0 | h0
            · rw [h0] at hj; simp at hj
            · exact h0
          have hdl : j / P.cellsOf e < len := by rw [Nat.div_lt_iff_lt_mul hnp]; rw [hlen] at hj; exact hj
          have hmn : j % P.cellsOf e < P.cellsOf e := Nat.mod_lt _ hnp
          obtain ⟨l, h1, _⟩ := hcss _ hdl
          obtain ⟨h2, h3⟩ := cells_some h1
          have h4 := h3 _ hmn
          rw [addAdd, Nat.mul_comm, Nat.div_add_mod] at h4
          rw [h1]
          have h5 : w.cell? (a.add j) = some (l.getD (j % P.cellsOf e) undef) := by
            rw [h4]
            have : j % P.cellsOf e < l.length := by omega
            simp [List.getD, List.getElem?_eq_getElem this]
          exact ⟨by have := cell_lt h5; rwa [addB] at this, h5⟩
      | array k e =>
        obtain ⟨xs, q, rfl, hx, hcl, hxl, hat⟩ := DataW.trod_array hu h
        rw [hx] at hwt
        simp only [DataW.weights, hu] at hwt
        obtain ⟨es, g1, g2, g3⟩ := rows_fit (P := P) (w := w) (e := e) (P.cellsOf e) k (fun i => (cs.drop (i * P.cellsOf e)).take (P.cellsOf e)) fun i hi => by
          have h1 := hat i hi
          rw [List.getElem?_eq_getElem (by omega)] at h1
          refine ⟨trod_fits K m q e _ _ hp h1 fun z hz => hwt z (weights_all (List.mem_map_of_mem (List.getElem_mem _)) z hz), ?_⟩
          have h2 := Nat.mul_le_mul_right (P.cellsOf e) (show i + 1 ≤ k from hi)
          rw [Nat.succ_mul] at h2
          have := (K.array hrow hu).2
          simp
          omega
        refine ⟨es.flatten, .array es hu g1 fun p hp => (g2 p hp).1, ?_, fun j r hj => ?_⟩
        · rw [length_flatten_of fun x hx => (g2 x hx).2, g1, hcl, (K.array hrow hu).2]
        · have := g3 j r hj
          have hjl := (List.getElem?_eq_some_iff.1 hj).1
          have hnp : 0 < P.cellsOf e := by
            rcases Nat.eq_zero_or_pos (P.cellsOf e) with h0 | h0
            · rw [length_flatten_of fun x hx => (g2 x hx).2, h0] at hjl; simp at hjl
            · exact h0
          have hmn : j % P.cellsOf e < P.cellsOf e := Nat.mod_lt _ hnp
          have hm : j / P.cellsOf e * P.cellsOf e + j % P.cellsOf e = j := by rw [Nat.mul_comm]; exact Nat.div_add_mod _ _
          simpa [List.getD, List.getElem?_take, List.getElem?_drop, hmn, hm] using this
      | struct fs =>
        obtain ⟨xs, q, rfl, hx, hcl, hxl, hat⟩ := DataW.trod_struct hu h
        rw [hx] at hwt
        simp only [DataW.weights, hu] at hwt
        obtain ⟨_, hsum, hoff⟩ := K.struct hrow hu
        obtain ⟨parts, g1, g2, g3, g4⟩ := fields_fit (P := P) (w := w) fs.toList 0 cs (fun j f hf => by rw [hoff j f hf]; simp) (fun f hf => by
          obtain ⟨i, hi, rfl⟩ := List.mem_iff_getElem.1 hf
          have hia : fs[i]? = some fs.toList[i] := by simp at hi; simp [hi]
          have h1 := hat i _ hia
          have hix : i < xs.length := by rw [hxl]; simpa using hi
          rw [List.getElem?_eq_getElem hix] at h1
          rw [List.all_eq_true] at hp
          exact trod_fits K m q _ _ _ (hp _ (List.getElem_mem hi)) h1 fun z hz => hwt z (DataW.weights_mem_each (j := i) (by rw [List.getElem?_map, List.getElem?_eq_getElem hi]; rfl) (by rw [List.getElem?_map, List.getElem?_eq_getElem hix]; rfl) z hz)) (by rw [hcl, hsum]; omega)
        exact ⟨parts.flatten, .struct parts hu g1 g2, by rw [g3, hcl, hsum], fun j r hj => by have := g4 j r hj; simpa using this⟩
      | _ => cases hp

theorem arg_fits (K : Kids P (· < P.types.size)) {m : Nat} {t : TypeId} (hp : plainTy P m t = true) {v : Value} {d : DataW H} {ps : List MemPlace} {base : Nat} {sp : Nat → Bool} {held : Bool} (h : DataW.Trod enc P w base sp held t v d ps) (hwt : ∀ q ∈ d.weights P t, q ≤ reachBytes) : Fits P w t v.cells.toList := by
 obtain ⟨n, hn⟩ := h
 exact trod_fits K m n t _ _ hp hn hwt
theorem Fits.agg {t : TypeId} {cs : Array Value} (h : Fits P w t cs.toList) {β : Nat → Value} {N : Nat} : ∃ rs, Sh P t rs ∧ ARel w (allRo w) [] β N (.agg (avs rs)) (.agg cs) := by
 obtain ⟨rs, h1, h2, h3⟩ := h
 refine ⟨rs, h1, .agg _ cs (by simpa using h2.symm) fun j x hj => ?_⟩
 rw [List.getElem?_map] at hj
 cases hr : rs[j]? with
 | none => simp [hr] at hj
 | some r =>
  simp [hr] at hj
  subst hj
  have := h3 j r hr
  exact .rv _ _ (by simpa [List.getD, Array.getD_eq_getD_getElem?] using this)
theorem Fits.one {t : TypeId} {v : Value} (h : Fits P w t v.cells.toList) (hv : v.cells = #[v]) {β : Nat → Value} {N : Nat} : ∃ r, Sh P t [r] ∧ ARel w (allRo w) [] β N (.rv r) v := by
 obtain ⟨rs, h1, h2, h3⟩ := h
 rw [hv] at h2
 match rs, h2, h1, h3 with
 | [r], _, h1, h3 =>
  have := h3 0 r rfl
  rw [hv] at this
  exact ⟨r, h1, .rv _ _ (by simpa using this)⟩

def fieldTypes (P : Program) (t : TypeId) : Option (List TypeId) :=
 match P.underlying t with
 | some (.struct fs) => some (fs.toList.map (·.type))
 | _ => none
def oneTy (P : Program) (t : TypeId) : Bool :=
 match P.underlying t with
 | some .bool => true
 | some (.int _) => true
 | some .string => true
 | some (.slice _) => true
 | _ => false
theorem okOne {r : Reach} {b0 : Nat} {t : TypeId} {v : Value} (h : Value.okWide P w r b0 t v) (hs : oneTy P t = true) : v.cells = #[v] := by
 unfold oneTy at hs
 split at hs
 ·rename_i hu
  simp only [Value.okWide, hu, Cell.okWide, Cell.ok] at h
  cases v <;> first | rfl | exact h.elim
 ·rename_i hu
  simp only [Value.okWide, hu, Cell.okWide, Cell.ok] at h
  cases v <;> first | rfl | exact h.elim
 ·rename_i hu
  simp only [Value.okWide, hu, Cell.okWide, Cell.ok] at h
  cases v <;> first | rfl | exact h.elim
 ·rename_i hu
  simp only [Value.okWide, hu, Cell.okWide, Cell.ok] at h
  cases v <;> first | rfl | exact h.elim
 ·cases hs
theorem okAgg {r : Reach} {b0 : Nat} {t : TypeId} {v : Value} (h : Value.okWide P w r b0 t v) (hs : (fieldTypes P t).isSome = true) : ∃ cs, v = .agg cs := by
 unfold fieldTypes at hs
 split at hs
 ·rename_i hu
  simp only [Value.okWide, hu] at h
  obtain ⟨cs, rfl, _⟩ := h
  exact ⟨cs, rfl⟩
 ·cases hs
theorem sameAt_of {w' : World} {p : MemPlace} (hp : p.block < w.heap.size) (h : ∀ b, b < w.heap.size → w'.heap[b]? = w.heap[b]?) : w.sameAt w' p := by
 cases p with
 | cell b off => exact World.cell?_of_block (a := ⟨b, off, none⟩) (h b hp)
 | map b => exact h b hp
theorem trodAll_carry {w' : World} (h : ∀ b, b < w.heap.size → w'.heap[b]? = w.heap[b]?) {base : Nat} {sp : Nat → Bool} {held : Bool} : ∀ {ts : List TypeId} {vs : List Value} {ds : List (DataW H)} {ps : List MemPlace}, DataW.TrodAll enc P w base sp held ts vs ds ps → DataW.TrodAll enc P w' base sp held ts vs ds ps
 | [], [], [], _, h => h
 | _ :: _, _ :: _, _ :: _, _, ⟨p, q, ⟨n, hn⟩, h2, e⟩ =>
  ⟨p, q, ⟨n, DataW.trod_carry n _ _ _ hn fun x hx => sameAt_of (DataW.trod_lt n _ _ _ hn x hx) h⟩, trodAll_carry h h2, e⟩
theorem keptBut_same {w' : World} {may : MemPlace → Prop} (h1 : w'.os = w.os) (h2 : w'.output = w.output) (h : ∀ b, b < w.heap.size → w'.heap[b]? = w.heap[b]?) : w.keptBut w' may := by
 refine ⟨h1, h2, fun i hi => ?_⟩
 rw [h i hi]
 cases hw : w.heap[i]? with
 | none => rfl
 | some o =>
  cases o with
  | cells c t fr => exact ⟨rfl, rfl, rfl, fun _ _ => rfl⟩
  | map es clock => exact .inr ⟨rfl, rfl⟩
  | _ => rfl

theorem law_post {G : Glob} {f : FuncId} {fn : Func} {s : ChangeSpec} {args : Array Value} {ds gs : List (DataW H)} {before : List MemPlace} {tb : TypeId} {avs' : List AV} {β : Nat → Value}
    (hW : DataW.Whole enc P fn.params.toList s.vars false w args.toList ds gs before) (hv : s.vars = []) (hs : s.fn H (ds ++ gs) = { results := [.lit (.bool true)], args := ds }) (hres : fn.resultTypes = #[tb]) (htb : P.underlying tb = some .bool)
    (K : Kids P (· < P.types.size)) (hz : ∀ t e, t < P.types.size → P.underlying t = some (.slice e) → 0 < P.cellsOf e) (hts : ∀ t ∈ fn.params.toList, t < P.types.size)
    (hlen : args.size = avs'.length) (hargs : ∀ i x, avs'[i]? = some x → ARel w (allRo w) [] β 0 x (args.getD i undef)) (hG : GRel w (allRo w) G) (hc : ACalls P G f avs' [] 0 fun r τ => r = vb true ∧ τ = []) :
    Calls P f args w fun e w' => ∃ v, e = .returned v ∧ s.post enc P fn false true false false w args v w' := by
  refine Calls.mono (hc w β (allRo w) args hlen hargs ⟨by simp [hget], by simp [hget], fun b _ ⟨_, _, hg, _⟩ => by simp [hget] at hg, fun b hb => hb⟩ hG (by simp [hget])) fun e w' hq => ?_
  obtain ⟨v, r, σ', β', ro', n', rfl, ⟨rfl, rfl⟩, hrel, _, ht⟩ := hq
  obtain rfl := ARel.val hrel
  have hh : ∀ b, b < w.heap.size → w'.heap[b]? = w.heap[b]? := fun b hb => ht.frame b hb fun ⟨_, _, hg, _⟩ => by simp [hget] at hg
  refine ⟨_, rfl, ds, gs, before, [], before, [], hW, ?_, ?_, ?_, keptBut_same ht.os ht.output hh, fun h => by cases h⟩
  · rw [hs, hres]
    exact trodAll_mk1 (shut_bool htb true)
  · rw [hs]
    have hlt : ∀ p ∈ before, (fun b => decide (b < w.heap.size)) p.block = true := fun p hp => by simpa using hW.lt p hp
    obtain ⟨p, q, h1, h2, rfl, _⟩ := hW
    rw [hv] at h2
    have hq : q = [] := by
      cases gs with
      | nil => exact h2
      | cons => cases h2
    subst hq
    rw [List.append_nil] at hlt ⊢
    exact trodAll_carry hh (h1.respare K hz hts hlt)
  · rw [hs, hv]
    rfl
end
end Go.Av
namespace Go.Av
open Go Go.ChangeShapes Go.WideShapes

def catT : List (Option (List Rt)) → Option (List Rt)
 | [] => some []
 | none :: _ => none
 | some l :: r => match catT r with
  | some m => some (l ++ m)
  | none => none
def eqRs : List Rt → List Rt → Bool
 | [], [] => true
 | a :: l, b :: m => eqR a b && eqRs l m
 | _, _ => false
theorem eqRs_eq : ∀ {l m : List Rt}, eqRs l m = true → l = m
 | [], [], _ => rfl
 | [], _ :: _, h => by cases h
 | _ :: _, [], h => by cases h
 | a :: l, b :: m, h => by
  simp only [eqRs, Bool.and_eq_true] at h
  rw [eqR_eq h.1, eqRs_eq h.2]
def flatT (P : Program) (T : List (Nat × TC)) : Nat → TypeId → Option (List Rt)
 | 0, _ => none
 | n + 1, t => match P.underlying t with
  | some .bool => some [.bool]
  | some (.int k) => some [.int k]
  | some .string => some [.str]
  | some (.slice e) => match lookT T e, flatT P T n e with
   | some c, some l => match eqRs l (fT c) && Nat.beq (P.cellsOf e) (nT c) with
    | true => some [.li c]
    | false => none
   | _, _ => none
  | some (.array k e) => catT (List.replicate k (flatT P T n e))
  | some (.struct fs) => catT (fs.toList.map fun f => flatT P T n f.type)
  | _ => none
inductive OkD : Dyn → Prop where
 | int (k : IntKind) (x : Int) : (Lit.int k x).wf = true → OkD ⟨.int k, x⟩
 | bool (b : Bool) : OkD ⟨.bool, b⟩
 | str (s : ByteArray) : s.size ≤ reachBytes → OkD ⟨.str, s⟩
 | li (c : TC) (l : List (tbl c)) : l.length ≤ maxLen → (∀ x ∈ l, ∀ d ∈ cD c x, OkD d) → OkD ⟨.li c, l⟩
inductive SubLL : List (List RV) → List (List RV) → Prop where
 | nil : SubLL [] []
 | cons {x y : List RV} {xs ys : List (List RV)} : SubL x y → SubLL xs ys → SubLL (x :: xs) (y :: ys)
theorem SubLL.flat {xs ys : List (List RV)} (h : SubLL xs ys) : SubL xs.flatten ys.flatten := by
 induction h with
 | nil => exact .nil
 | cons h _ ih => rw [List.flatten_cons, List.flatten_cons]; exact h.append ih
theorem SubLL.len {xs ys : List (List RV)} (h : SubLL xs ys) : xs.length = ys.length := by
 induction h with
 | nil => rfl
 | cons h _ ih => simp [ih]
theorem slT_sub {c : TC} {n : Nat} {es : List (List RV)} {l : List (tbl c)} (hn : n = nT c) (h : SubLL es (l.map (cT c))) : SubR (.sl n es) (.li c l) := by
 subst hn
 intro w ro v hr
 refine .li _ _ _ ?_
 cases hr with
 | sl _ _ b cap cc h1 h2 h3 h4 h5 =>
  have hlen : (l.map (cT c)).length = es.length := h.len.symm
  rw [← hlen]
  refine .sl _ _ b cap cc (by omega) h2 (fun e he => ?_) (fun hp => ?_) fun j y hj => ?_
  ·obtain ⟨x, _, rfl⟩ := List.mem_map.1 he
   exact cT_len c x
  ·rw [hlen] at hp ⊢
   exact h4 hp
  ·obtain ⟨x, hx, hs⟩ := h.flat.at.2 j y hj
   exact hs _ _ _ (h5 j x hx)
section
variable {P : Program} {T : List (Nat × TC)}
theorem sh_cat {n : Nat} (ih : ∀ {t : TypeId} {rs : List RV} {l : List Rt}, Sh P t rs → flatT P T n t = some l → ∃ ds : List Dyn, ds.map Dyn.r = l ∧ SubL rs (ds.map Dyn.rv) ∧ ∀ d ∈ ds, OkD d) :
    ∀ (ts : List TypeId) (parts : List (List RV)) {l : List Rt}, parts.length = ts.length → (∀ (i : Nat) (t : TypeId) (p : List RV), ts[i]? = some t → parts[i]? = some p → Sh P t p) → catT (ts.map (flatT P T n)) = some l →
    ∃ ds : List Dyn, ds.map Dyn.r = l ∧ SubL parts.flatten (ds.map Dyn.rv) ∧ ∀ d ∈ ds, OkD d
  | [], parts, l, hl, _, hc => by
    cases List.eq_nil_of_length_eq_zero hl
    cases hc
    exact ⟨[], rfl, .nil, by simp⟩
  | t :: ts, [], l, hl, _, _ => by cases hl
  | t :: ts, p :: parts, l, hl, hs, hc => by
    simp only [List.map_cons] at hc
    cases h1 : flatT P T n t with
    | none => rw [h1] at hc; cases hc
    | some l1 =>
      rw [h1] at hc
      simp only [catT] at hc
      cases h2 : catT (ts.map (flatT P T n)) with
      | none => rw [h2] at hc; cases hc
      | some l2 =>
        rw [h2] at hc
        cases hc
        obtain ⟨d1, a1, a2, a3⟩ := ih (hs 0 t p rfl rfl) h1
        obtain ⟨d2, b1, b2, b3⟩ := sh_cat ih ts parts (by simpa using hl) (fun i t p hi hp => hs (i + 1) t p (by simpa using hi) (by simpa using hp)) h2
        refine ⟨d1 ++ d2, by simp [a1, b1], by rw [List.flatten_cons, List.map_append]; exact a2.append b2, fun d hd => ?_⟩
        rcases List.mem_append.1 hd with hd | hd
        · exact a3 d hd
        · exact b3 d hd
theorem sh_rows {c : TC} {e : TypeId} (ih : ∀ {rs : List RV}, Sh P e rs → ∃ ds : List Dyn, ds.map Dyn.r = fT c ∧ SubL rs (ds.map Dyn.rv) ∧ ∀ d ∈ ds, OkD d) :
    ∀ (es : List (List RV)), (∀ x ∈ es, Sh P e x) → ∃ l : List (tbl c), SubLL es (l.map (cT c)) ∧ ∀ x ∈ l, ∀ d ∈ cD c x, OkD d
  | [], _ => ⟨[], .nil, by simp⟩
  | x :: es, h => by
    obtain ⟨ds, a1, a2, a3⟩ := ih (h x (by simp))
    obtain ⟨l, b1, b2⟩ := sh_rows ih es fun y hy => h y (by simp [hy])
    have hc : cD c (mT c ds) = ds := cD_mT c ds a1
    refine ⟨mT c ds :: l, .cons (by unfold cT; rw [hc]; exact a2) b1, fun y hy d hd => ?_⟩
    rcases List.mem_cons.1 hy with rfl | hy
    · rw [hc] at hd
      exact a3 d hd
    · exact b2 y hy d hd
theorem sh_flat : ∀ (n : Nat) {t : TypeId} {rs : List RV} {l : List Rt}, Sh P t rs → flatT P T n t = some l → ∃ ds : List Dyn, ds.map Dyn.r = l ∧ SubL rs (ds.map Dyn.rv) ∧ ∀ d ∈ ds, OkD d
 | 0, _, _, _, _, h => by cases h
 | n + 1, t, rs, l, h, hf => by
  unfold flatT at hf
  cases h with
  | bool b hu =>
   rw [hu] at hf
   cases hf
   exact ⟨[⟨.bool, b⟩], rfl, .cons (SubR.refl _) .nil, fun d hd => by cases List.mem_singleton.1 hd; exact .bool b⟩
  | int x hu hw =>
   rw [hu] at hf
   cases hf
   exact ⟨[⟨.int _, x⟩], rfl, .cons (SubR.refl _) .nil, fun d hd => by cases List.mem_singleton.1 hd; exact .int _ _ hw⟩
  | str s hu hw =>
   rw [hu] at hf
   cases hf
   exact ⟨[⟨.str, s⟩], rfl, .cons (SubR.refl _) .nil, fun d hd => by cases List.mem_singleton.1 hd; exact .str _ hw⟩
  | slice es hu hl hw =>
   rw [hu] at hf
   simp only at hf
   split at hf
   ·rename_i c l1 _ h2
    split at hf
    ·rename_i hc
     cases hf
     simp only [Bool.and_eq_true] at hc
     have h3 := eqRs_eq hc.1
     subst h3
     obtain ⟨l, a1, a2⟩ := sh_rows (c := c) (fun hx => sh_flat n hx h2) es hw
     refine ⟨[⟨.li c, l⟩], rfl, .cons (slT_sub (Nat.eq_of_beq_eq_true hc.2) a1) .nil, fun d hd => ?_⟩
     cases List.mem_singleton.1 hd
     exact .li _ _ (by have := a1.len; rw [List.length_map] at this; have := hl.1; omega) a2
    ·cases hf
   ·cases hf
  | struct parts hu h1 h2 =>
   rw [hu] at hf
   simp only at hf
   rename_i fs
   have hm : (fs.toList.map fun f => flatT P T n f.type) = (fs.toList.map (·.type)).map (flatT P T n) := by rw [List.map_map]; rfl
   rw [hm] at hf
   obtain ⟨ds, a1, a2, a3⟩ := sh_cat (fun hx hy => sh_flat n hx hy) _ parts (by rw [List.length_map]; exact h1) (fun i u p hi hp => by
    rw [List.getElem?_map] at hi
    cases hfi : fs.toList[i]? with
    | none => rw [hfi] at hi; cases hi
    | some f =>
     rw [hfi] at hi
     cases hi
     exact h2 i f p hfi hp) hf
   exact ⟨ds, a1, a2, a3⟩
  | array parts hu h1 h2 =>
   rw [hu] at hf
   simp only at hf
   rename_i e k
   have hm : List.replicate k (flatT P T n e) = (List.replicate k e).map (flatT P T n) := by rw [List.map_replicate]
   rw [hm] at hf
   obtain ⟨ds, a1, a2, a3⟩ := sh_cat (fun hx hy => sh_flat n hx hy) _ parts (by rw [List.length_replicate]; exact h1) (fun i u p hi hp => by
    have := List.mem_of_getElem? hi
    cases (List.mem_replicate.1 this).2
    exact h2 p (List.mem_of_getElem? hp)) hf
   exact ⟨ds, a1, a2, a3⟩
def parT (P : Program) (T : List (Nat × TC)) (t : TypeId) : Option Rt :=
 match (fieldTypes P t).isSome with
 | true => match lookT T t, flatT P T 20 t with
  | some c, some l => match eqRs l (fT c) with
   | true => some (.st c)
   | false => none
  | _, _ => none
 | false => match oneTy P t, flatT P T 20 t with
  | true, some [r] => match r.one with
   | true => some r
   | false => none
  | _, _ => none
def parTs (P : Program) (T : List (Nat × TC)) : List TypeId → Option (List Rt)
 | [] => some []
 | t :: ts => match plainTy P 20 t, parT P T t, parTs P T ts with
  | true, some r, some rs => some (r :: rs)
  | _, _, _ => none
def OkA (d : Dyn) : Prop :=
 match d with
 | ⟨.st c, x⟩ => ∀ q ∈ cD c x, OkD q
 | d => OkD d
variable {H : Type} {enc : TypeId × Value → H} {w : World}
theorem par_ok {β : Nat → Value} {t : TypeId} {v : Value} {r : Rt} {reach : Reach} {b0 : Nat} (hf : Fits P w t v.cells.toList) (hv : Value.okWide P w reach b0 t v) (h : parT P T t = some r) : ∃ x : r.den, ARel w (allRo w) [] β 0 (Dyn.av ⟨r, x⟩) v ∧ OkA ⟨r, x⟩ := by
 unfold parT at h
 split at h
 ·rename_i hs
  split at h
  ·rename_i c l _ hl
   split at h
   ·rename_i hc
    cases h
    obtain rfl := eqRs_eq hc
    obtain ⟨cs, rfl⟩ := okAgg hv hs
    obtain ⟨rs, g1, g2⟩ := Fits.agg (P := P) (w := w) (cs := cs) hf (β := β) (N := 0)
    obtain ⟨ds, a1, a2, a3⟩ := sh_flat 20 g1 hl
    have hc : cD c (mT c ds) = ds := cD_mT c ds a1
    refine ⟨mT c ds, ?_, fun q hq => a3 q (by rw [← hc]; exact hq)⟩
    have hav : Dyn.av ⟨.st c, mT c ds⟩ = .agg ((ds.map Dyn.rv).map .rv) := by
     show AV.agg ((cT c (mT c ds)).map .rv) = _
     unfold cT
     rw [hc]
    rw [hav]
    exact (SubL.av a2).agg _ _ _ _ _ _ g2
   ·cases h
  ·cases h
 ·split at h
  ·rename_i r' ho hl
   split at h
   ·rename_i h1
    cases h
    obtain ⟨y, g1, g2⟩ := Fits.one (P := P) (w := w) hf (okOne hv ho) (β := β) (N := 0)
    obtain ⟨ds, a1, a2, a3⟩ := sh_flat 20 g1 hl
    obtain ⟨d, ds', rfl, rfl, hn⟩ := map1 a1
    cases map0 hn
    cases a2 with
    | cons hs _ =>
     have hst := one_st h1
     refine ⟨d.v, ?_, ?_⟩
     ·show ARel w (allRo w) [] β 0 (Dyn.av d) v
      have : Dyn.av d = .rv d.rv := av_one (x := d.v) hst
      rw [this]
      exact hs.av _ _ _ _ _ _ g2
     ·have := a3 d (List.mem_singleton.2 rfl)
      unfold OkA
      split
      ·rename_i c x heq
       exact absurd (congrArg Dyn.r heq) (hst c)
      ·exact this
   ·cases h
  ·cases h
theorem args_ok (K : Kids P (· < P.types.size)) {β : Nat → Value} {base b0 : Nat} {sp : Nat → Bool} {held : Bool} {reach : Reach} : ∀ {ts : List TypeId} {vs : List Value} {ds : List (DataW H)} {ps : List MemPlace} {rs : List Rt}, DataW.TrodAll enc P w base sp held ts vs ds ps → parTs P T ts = some rs →
    (∀ q ∈ DataW.weightsEach P ts ds, q ≤ reachBytes) → (∀ (j : Nat) t v, ts[j]? = some t → vs[j]? = some v → Value.okWide P w reach b0 t v) →
    ds.length = ts.length ∧ ∃ dl : List Dyn, dl.map Dyn.r = rs ∧ dl.length = vs.length ∧ (∀ (j : Nat) x, (dl.map Dyn.av)[j]? = some x → ∃ v, vs[j]? = some v ∧ ARel w (allRo w) [] β 0 x v) ∧ ∀ d ∈ dl, OkA d
  | [], vs, ds, ps, rs, h, hp, _, _ => by
    obtain ⟨rfl, rfl, rfl⟩ := trodAll_nil h
    cases hp
    exact ⟨rfl, [], rfl, rfl, by simp, by simp⟩
  | t :: ts, vs, ds, ps, rs, h, hp, hw, ho => by
    obtain ⟨v, vs', d, ds', p, q, rfl, rfl, rfl, h1, h2⟩ := trodAll_cons h
    unfold parTs at hp
    split at hp
    · rename_i r rs' hpl hr hrs
      cases hp
      obtain ⟨g0, dl, g1, g2, g3, g4⟩ := args_ok K h2 hrs (fun q hq => hw q (by rw [DataW.weightsEach]; exact List.mem_append_right _ hq)) fun j t' v' hj hj' => ho (j + 1) t' v' (by simpa using hj) (by simpa using hj')
      obtain ⟨x, a1, a2⟩ := par_ok (β := β) (arg_fits K hpl h1 fun q hq => hw q (by rw [DataW.weightsEach]; exact List.mem_append_left _ hq)) (ho 0 t v rfl rfl) hr
      refine ⟨by simp [g0], ⟨r, x⟩ :: dl, by simp [g1], by simp [g2], fun j y hj => ?_, fun d hd => ?_⟩
      · cases j with
        | zero => simp at hj; subst hj; exact ⟨v, rfl, a1⟩
        | succ j => simpa using g3 j y (by simpa using hj)
      · rcases List.mem_cons.1 hd with rfl | hd
        · exact a2
        · exact g4 d hd
    · cases hp
theorem law_md {G : Glob} {f : FuncId} {fn : Func} {s : ChangeSpec} {args : Array Value} {ds gs : List (DataW H)} {before : List MemPlace} {tb : TypeId} {b0 : Nat} {reach : Reach} {m : Md}
    (hW : DataW.Whole enc P fn.params.toList s.vars false w args.toList ds gs before) (hv : s.vars = []) (hs : ∀ ds : List (DataW H), ds.length = fn.params.toList.length → s.fn H ds = { results := [.lit (.bool true)], args := ds })
    (hwt : (DataW.weightsEach P (fn.params.toList ++ s.plain.varTypes P) (ds ++ gs)).all (· ≤ reachBytes) = true) (hval : ∀ (j : Nat) t v, fn.params[j]? = some t → args[j]? = some v → Value.okWide P w reach b0 t v)
    (hvt : s.plain.varTypes P = []) (hres : fn.resultTypes = #[tb]) (htb : P.underlying tb = some .bool) (K : Kids P (· < P.types.size)) (hz : ∀ t e, t < P.types.size → P.underlying t = some (.slice e) → 0 < P.cellsOf e) (hts : ∀ t ∈ fn.params.toList, t < P.types.size)
    (hps : parTs P T fn.params.toList = some m.ps) (hG : GRel w (allRo w) G) (hc : MdOk P G f m) (hm : ∀ x, (∀ d ∈ upL m.ps x, OkA d) → preOk m.pre x ∧ resA m.rs (m.m x) = vb true) :
    Calls P f args w fun e w' => ∃ v, e = .returned v ∧ s.post enc P fn false true false false w args v w' := by
  have hW' := hW
  obtain ⟨p, q, hA, hV, rfl, _, _⟩ := hW
  rw [hv] at hV
  obtain ⟨rfl, rfl⟩ := trodVars_none hV
  rw [hvt, List.append_nil, List.append_nil] at hwt
  obtain ⟨hdl, dl, a1, a2, a3, a4⟩ := args_ok (T := T) (β := fun _ => undef) K hA hps (fun q hq => by simpa using List.all_eq_true.1 hwt q hq) fun j t v hj hj' => hval j t v (by simpa using hj) (by simpa using hj')
  have hup : upL m.ps (pkL m.ps dl) = dl := upL_pkL a1
  obtain ⟨hpre, hr⟩ := hm (pkL m.ps dl) (by rw [hup]; exact a4)
  have hcall := (hc (pkL m.ps dl) hpre).frame (σ := []) (n := 0) (avL_pure _) fun r τ hr => by rw [hr]; exact resA_pure
  refine law_post (β := fun _ => undef) hW' hv (by rw [List.append_nil]; exact hs ds hdl) hres htb K hz hts (avs' := avL m.ps (pkL m.ps dl)) ?_ (fun i x hx => ?_) hG (hcall.res fun r τ ⟨h1, _, h2⟩ => ⟨h2.trans hr, h1⟩)
  · unfold avL
    rw [hup, List.length_map, a2]
    exact Array.length_toList.symm
  · unfold avL at hx
    rw [hup] at hx
    obtain ⟨v, h1, h2⟩ := a3 i x hx
    have : args.getD i undef = v := by
      have h1' : args[i]? = some v := by simpa using h1
      rw [Array.getD_eq_getD_getElem?, h1']
      rfl
    rw [this]
    exact h2
end
end Go.Av
namespace Go.Av
open Go

def delHS : List (Nat × SO) → Nat → List (Nat × SO)
 | [], _ => []
 | (k, x) :: r, id => match Nat.beq k id with
  | true => delHS r id
  | false => (k, x) :: delHS r id
theorem delHS_den {G : Glob} {e : Env} {id : Nat} : ∀ (h : List (Nat × SO)), denH G e (delHS h id) = hdel (denH G e h) id
 | [] => rfl
 | (k, x) :: r => by
  simp only [delHS, denH, hdel]
  by_cases hk : k = id
  ·subst hk
   simp only [Nat.beq_refl, if_true]
   exact delHS_den r
  ·have : Nat.beq k id = false := by cases hq : Nat.beq k id with | true => exact absurd (Nat.eq_of_beq_eq_true hq) hk | false => rfl
   simp only [this, if_neg hk, denH, delHS_den r]
theorem delHS_lt {k id : Nat} : ∀ {h : List (Nat × SO)}, ltH k h = true → ltH k (delHS h id) = true
 | [], h => h
 | (j, x) :: r, h => by
  have hh : x.lt k = true ∧ ltH k r = true := by cases x <;> simpa only [ltH, Bool.and_eq_true] using h
  simp only [delHS]
  split
  ·exact delHS_lt hh.2
  ·show (x.lt k && ltH k (delHS r id)) = true
   rw [hh.1, delHS_lt hh.2]
   rfl
def conZ (fS tB t5 : Nat) (inl : Nat → List SV → SS → Tr) (f : Nat) (as : List SV) (S : SS) : Tr :=
 match Nat.beq f fS, as with
 | true, [.px id 0] => match getH S.h id with
  | some (.bx t [x0, .sl r]) => match getH S.h r with
   | some (.rw t' .u8 x) => match (Nat.beq t tB && Nat.beq t' t5) && (x.is1 (.li .u8) && x.lt S.k) with
    | true => emit S.k [.f1 .bs x] [] (.lf .nrm ⟨Tri.put .emp 0 (.va .str S.k), delHS S.h r, S.n, S.k + 1, S.g⟩)
    | false => inl f as S
   | _ => inl f as S
  | some (.bx t [x0, .cs (.slice none 0 0)]) => match Nat.beq t tB with
   | true => .lf .nrm ⟨Tri.put .emp 0 (.cs (.string ⟨#[]⟩)), S.h, S.n, S.k, S.g⟩
   | false => inl f as S
  | _ => inl f as S
 | _, _ => inl f as S
section
variable {P : Program} {G : Glob} {M : List Md} {inl : Nat → List SV → SS → Tr} {fS tB t5 : Nat}
def ZOk (P : Program) (G : Glob) (fS tB t5 : Nat) : Prop :=
 (∀ {σ : Heap} {n rid id : Nat} {x0 : AV} {l : List Int}, hget σ id = some (.box tB [x0, .sl rid]) → hget σ rid = some (.row false t5 1 (l.map fun z => [.v (.int .u8 z)])) →
  ACalls P G fS [.ptr id 0] σ n fun r τ => r = .rv (.v (.string (bytesOf l))) ∧ τ = hdel σ rid) ∧
 ∀ {σ : Heap} {n id : Nat} {x0 : AV}, hget σ id = some (.box tB [x0, .rv (.v (.slice none 0 0))]) → ACalls P G fS [.ptr id 0] σ n fun r τ => r = .rv (.v (.string ⟨#[]⟩)) ∧ τ = σ
theorem conZ_ok (hA : ZOk P G fS tB t5) (hI : InlOk P G M inl) : InlOk P G M (conZ fS tB t5 inl) := fun f as S e hb hl hf hs => by
 unfold conZ at hs ⊢
 split at hs
 rotate_left
 ·exact hI _ _ S e hb hl hf hs
 rename_i id hfS
 have k0 := Nat.eq_of_beq_eq_true hfS
 subst k0
 split at hs
 ·rename_i t x0 r hg
  split at hs
  rotate_left
  ·exact hI _ _ S e hb hl hf hs
  rename_i t' x hg2
  split at hs
  rotate_left
  ·exact hI _ _ S e hb hl hf hs
  rename_i hk
  simp only [Bool.and_eq_true] at hk
  obtain ⟨⟨k1, k2⟩, k3, k4⟩ := hk
  have k1 := Nat.eq_of_beq_eq_true k1
  have k2 := Nat.eq_of_beq_eq_true k2
  subst k1 k2
  have hlX : ltX S.k [Ex.f1 .bs x] = true := by
   simp only [ltX, Ex.lt, k4, Bool.and_self]
  have hag : Agr S.k e (envX M e S.k [Ex.f1 .bs x]) := envX_agr (Nat.le_refl _)
  have hat := envX_at (M := M) (e := e) hlX 0 _ rfl
  have hgx : x.get1 (envX M e S.k [Ex.f1 .bs x]) (.li .u8) = x.get1 e (.li .u8) := get1_agr hag k4
  simp only [Nat.add_zero, Ex.den, F1.den, F1.a, hgx] at hat
  have hfin := hA.1 (σ := denH G e S.h) (n := S.n) (rid := r) (id := id) (x0 := x0.den G e) (l := x.get1 e (.li .u8)) (by rw [denH_get, hg]; rfl) (by rw [denH_get, hg2]; rfl)
  refine hfin.res fun rr τ ⟨h1, h2⟩ => ⟨⟨Tri.put .emp 0 (.va .str S.k), delHS S.h r, S.n, S.k + 1, S.g⟩, envX M e S.k [Ex.f1 .bs x], by rw [emit_run]; rfl, ?_, ?_, ?_, fok_keep hag hb.g hf, hag, Nat.le_succ _⟩
  ·rw [h1]
   show _ = SV.den G _ (SS.at _ 0)
   unfold SS.at
   simp only [Tri.get_put, if_true, SV.den, SV.dyn, hat]
   rfl
  ·rw [h2]
   show _ = denH G _ (delHS S.h r)
   rw [delHS_den, denH_agr hag hb.h]
  ·refine ⟨fun i y hi => ?_, delHS_lt (ltH_mono (Nat.le_succ _) hb.h), ltG_mono (Nat.le_succ _) hb.g⟩
   simp only [Tri.get_put] at hi
   split at hi
   ·cases hi
    exact lt_blt (Nat.lt_succ_self _)
   ·simp [Tri.get] at hi
 ·rename_i t x0 hg
  split at hs
  rotate_left
  ·exact hI _ _ S e hb hl hf hs
  rename_i k1
  have k1 := Nat.eq_of_beq_eq_true k1
  subst k1
  have hfin := hA.2 (σ := denH G e S.h) (n := S.n) (id := id) (x0 := x0.den G e) (by rw [denH_get, hg]; rfl)
  refine hfin.res fun rr τ ⟨h1, h2⟩ => ⟨⟨Tri.put .emp 0 (.cs (.string ⟨#[]⟩)), S.h, S.n, S.k, S.g⟩, e, rfl, ?_, ?_, ?_, hf, Agr.refl _ _, Nat.le_refl _⟩
  ·rw [h1]
   show _ = SV.den G _ (SS.at _ 0)
   unfold SS.at
   simp only [Tri.get_put, if_true, SV.den]
  ·rw [h2]
  ·refine ⟨fun i y hi => ?_, hb.h, hb.g⟩
   simp only [Tri.get_put] at hi
   split at hi
   ·cases hi
    rfl
   ·simp [Tri.get] at hi
 ·exact hI _ _ S e hb hl hf hs
end
end Go.Av
namespace Go.Av
open Go
def inlE (P : Program) (H : Hd) (T : List (Nat × TC)) (Z : Nat × Nat × Nat) (B : List Cb) (C : List Cn) : Nat → Nat → List SV → SS → Tr
 | 0 => fun _ _ _ => .bad 40
 | n + 1 => bodyT P H T (conZ Z.1 Z.2.1 Z.2.2 (conB B (conI C (inlE P H T Z B C n))))
section
variable {P : Program} {G : Glob} {M : List Md}
theorem inlE_ok {Z : Nat × Nat × Nat} {B : List Cb} {C : List Cn} {H : Hd} {T : List (Nat × TC)} (hH : HdOk P G M H) (hZ : ZOk P G Z.1 Z.2.1 Z.2.2) (hB : CbsOk P G M B) (hC : CnsOk P G M C) : ∀ n, InlOk P G M (inlE P H T Z B C n)
 | 0 => fun _ _ _ _ _ _ _ h => h.elim
 | n + 1 => body_ok hH (conZ_ok hZ (conB_ok hB (conI_ok hC (inlE_ok hH hZ hB hC n))))
end
end Go.Av
namespace Go.Av
open Go

def jnF (n : Nat) (b : Bool) (f : Ek → Bool) (x : Ek) : Bool :=
 match x.isJ n with
 | true => b
 | false => f x
def xtF (n : Nat) (b : Bool) (f : Ek → Bool) (x : Ek) : Bool :=
 match x.isX n with
 | true => b
 | false => f x
def Tr.cl : Tr → (Ek → Bool) → Bool
 | .lf x _, f => f x
 | .lt _ _ t, f => t.cl f
 | .nd _ _, _ => false
 | .it _ a b, f => a.cl f && b.cl f
 | .jn n a _ k, f => a.cl (jnF n (k.cl f) f)
 | .lp m xid _ _ _ a k, f => k.cl f && a.cl (jnF m true (xtF xid true f))
 | .lg _ _ _ _ _, _ => false
 | .bad _, _ => false
def Tr.wq (M : List Md) : Tr → Env → (Ek → Bool) → (Ek → SS → Env → Prop) → Prop
  | .lf x S, e, _, Q => Q x S e
  | .lt i x t, e, f, Q => t.wq M (Tri.put e i (x.den M e)) f Q
  | .nd n t, e, f, Q => match t.cl f with
    | true => n.ok M e
    | false => n.ok M e ∧ t.wq M e f Q
  | .it g a b, e, f, Q => match a.cl f, b.cl f with
    | true, true => True
    | true, false => g.get1 e .bool = false → b.wq M e f Q
    | false, true => g.get1 e .bool = true → a.wq M e f Q
    | false, false => (g.get1 e .bool = true → a.wq M e f Q) ∧ (g.get1 e .bool = false → b.wq M e f Q)
  | .jn n a ps k, e, f, Q => a.wq M e (jnF n (k.cl f) f) fun x S e' => bif x.isJ n then k.wq M (setP e (fun r p => ⟨r, (p.sv S).get e' r⟩) ps) f Q else Q x S e'
  | .lp m xid bd ix ca a k, e, f, Q => match k.cl f with
    | true => ∃ I : Nat → caR ca → Prop, I 0 (pkL _ (caV e ca)) ∧ ∀ (i : Nat) (v : caR ca), i < (intD (bd.den M e)).toNat → I i v →
      a.wq M (setC (Tri.put e ix ⟨.int .i64, (i : Int)⟩) ca v) (jnF m false (xtF xid true f)) fun x S e' => bif x.isJ m then I (i + 1) (pkL _ (caE S e' ca)) else bif x.isX xid then True else Q x S e'
    | false => ∃ I : Nat → caR ca → Prop, I 0 (pkL _ (caV e ca)) ∧ (∀ (i : Nat) (v : caR ca), i < (intD (bd.den M e)).toNat → I i v →
      a.wq M (setC (Tri.put e ix ⟨.int .i64, (i : Int)⟩) ca v) (jnF m false (xtF xid false f)) fun x S e' => bif x.isJ m then I (i + 1) (pkL _ (caE S e' ca)) else bif x.isX xid then k.wq M (setC e ca (pkL _ (caE S e' ca))) f Q else Q x S e') ∧
      ∀ v, I (intD (bd.den M e)).toNat v → k.wq M (setC e ca v) f Q
  | .lg m xid ca a k, e, f, Q => ∃ (I : caR ca → Prop) (μ : caR ca → Nat), I (pkL _ (caV e ca)) ∧ μ (pkL _ (caV e ca)) < fuelW ∧ ∀ (v : caR ca), I v →
      a.wq M (setC e ca v) (jnF m false (xtF xid (k.cl f) f)) fun x S e' => bif x.isJ m then I (pkL _ (caE S e' ca)) ∧ μ (pkL _ (caE S e' ca)) < μ v else bif x.isX xid then k.wq M (setC e ca (pkL _ (caE S e' ca))) f Q else Q x S e'
  | .bad _, _, _, _ => False
section
variable {M : List Md}
def FOk (f : Ek → Bool) (Q : Ek → SS → Env → Prop) : Prop := ∀ x, f x = true → ∀ S e, Q x S e
theorem FOk.jn {f : Ek → Bool} {Q R : Ek → SS → Env → Prop} {n : Nat} {b : Bool} (h : FOk f R) (hb : b = true → ∀ x S e, x.isJ n = true → Q x S e) (hr : ∀ x S e, x.isJ n = false → R x S e → Q x S e) : FOk (jnF n b f) Q := fun x hx S e => by
 unfold jnF at hx
 cases hj : x.isJ n with
 | true => rw [hj] at hx; exact hb hx x S e hj
 | false => rw [hj] at hx; exact hr x S e hj (h x hx S e)
theorem FOk.xt {f : Ek → Bool} {Q R : Ek → SS → Env → Prop} {n : Nat} {b : Bool} (h : FOk f R) (hb : b = true → ∀ x S e, x.isX n = true → Q x S e) (hr : ∀ x S e, x.isX n = false → R x S e → Q x S e) : FOk (xtF n b f) Q := fun x hx S e => by
 unfold xtF at hx
 cases hj : x.isX n with
 | true => rw [hj] at hx; exact hb hx x S e hj
 | false => rw [hj] at hx; exact hr x S e hj (h x hx S e)
theorem cl_wp : ∀ (t : Tr) {e : Env} {f : Ek → Bool} {Q : Ek → SS → Env → Prop}, FOk f Q → t.cl f = true → t.wp M e Q
 | .lf x S, e, _, _, h, c => h x c S e
 | .lt _ _ t, _, _, _, h, c => cl_wp t h c
 | .nd _ _, _, _, _, _, c => by cases c
 | .it _ a b, _, _, _, h, c => by
  simp only [Tr.cl, Bool.and_eq_true] at c
  exact ⟨fun _ => cl_wp a h c.1, fun _ => cl_wp b h c.2⟩
 | .jn n a ps k, e, f, Q, h, c => cl_wp a (FOk.jn h (fun hb x S e' hj => by rw [hj]; exact cl_wp k h hb) (fun x S e' hj hq => by rw [hj]; exact hq)) c
 | .lp m xid bd ix ca a k, e, f, Q, h, c => by
  simp only [Tr.cl, Bool.and_eq_true] at c
  refine ⟨fun _ _ => True, trivial, fun i v _ _ => cl_wp a (FOk.jn (FOk.xt h (Q := fun x S e' => bif x.isX xid then k.wp M (setC e ca (pkL _ (caE S e' ca))) Q else Q x S e') (fun _ x S e' hj => by rw [hj]; exact cl_wp k h c.1) (fun x S e' hj hq => by rw [hj]; exact hq)) (fun _ x S e' hj => by rw [hj]; trivial) (fun x S e' hj hq => by rw [hj]; exact hq)) c.2, fun v _ => cl_wp k h c.1⟩
 | .lg _ _ _ _ _, _, _, _, _, c => by cases c
 | .bad _, _, _, _, _, c => by cases c
theorem wq_mono : ∀ (t : Tr) {e : Env} {f : Ek → Bool} {Q R : Ek → SS → Env → Prop}, (∀ x S e', Q x S e' → R x S e') → t.wq M e f Q → t.wq M e f R
  | .lf _ _, _, _, _, _, h, q => h _ _ _ q
  | .lt _ _ t, _, _, _, _, h, q => wq_mono t h q
  | .nd n t, e, f, Q, R, h, q => by
    simp only [Tr.wq] at q ⊢
    cases hc : t.cl f with
    | true => rw [hc] at q; exact q
    | false => rw [hc] at q; exact ⟨q.1, wq_mono t h q.2⟩
  | .it g a b, e, f, Q, R, h, q => by
    simp only [Tr.wq] at q ⊢
    cases ha : a.cl f <;> cases hb : b.cl f <;> rw [ha, hb] at q <;> simp only at q ⊢
    · exact ⟨fun hg => wq_mono a h (q.1 hg), fun hg => wq_mono b h (q.2 hg)⟩
    · exact fun hg => wq_mono a h (q hg)
    · exact fun hg => wq_mono b h (q hg)
  | .jn n a ps k, e, f, Q, R, h, q => wq_mono a (fun x S e' r => by
      cases hx : x.isJ n with
      | true => rw [hx] at r; exact wq_mono k h r
      | false => rw [hx] at r; exact h _ _ _ r) q
  | .lp m xid bd ix ca a k, e, f, Q, R, h, q => by
    simp only [Tr.wq] at q ⊢
    cases hc : k.cl f with
    | true =>
      rw [hc] at q
      obtain ⟨I, h1, h2⟩ := q
      refine ⟨I, h1, fun i v hi hv => wq_mono a (fun x S e' r => ?_) (h2 i v hi hv)⟩
      cases hx : x.isJ m with
      | true => rw [hx] at r; exact r
      | false =>
        rw [hx] at r
        cases hy : x.isX xid with
        | true => trivial
        | false => rw [hy] at r; exact h _ _ _ r
    | false =>
      rw [hc] at q
      obtain ⟨I, h1, h2, h3⟩ := q
      refine ⟨I, h1, fun i v hi hv => wq_mono a (fun x S e' r => ?_) (h2 i v hi hv), fun v hv => wq_mono k h (h3 v hv)⟩
      cases hx : x.isJ m with
      | true => rw [hx] at r; exact r
      | false =>
        rw [hx] at r
        cases hy : x.isX xid with
        | true => rw [hy] at r; exact wq_mono k h r
        | false => rw [hy] at r; exact h _ _ _ r
  | .lg m xid ca a k, e, f, Q, R, h, q => by
    obtain ⟨I, μ, h1, h2, h3⟩ := q
    refine ⟨I, μ, h1, h2, fun v hv => wq_mono a (fun x S e' r => ?_) (h3 v hv)⟩
    cases hx : x.isJ m with
    | true => rw [hx] at r; exact r
    | false =>
      rw [hx] at r
      cases hy : x.isX xid with
      | true => rw [hy] at r; exact wq_mono k h r
      | false => rw [hy] at r; exact h _ _ _ r
  | .bad _, _, _, _, _, _, q => q.elim
theorem wq_wp : ∀ (t : Tr) {e : Env} {f : Ek → Bool} {Q : Ek → SS → Env → Prop}, FOk f Q → t.wq M e f Q → t.wp M e Q
 | .lf _ _, _, _, _, _, q => q
 | .lt _ _ t, _, _, _, h, q => wq_wp t h q
 | .nd n t, e, f, Q, h, q => by
  simp only [Tr.wq] at q
  cases hc : t.cl f with
  | true => rw [hc] at q; exact ⟨q, cl_wp t h hc⟩
  | false => rw [hc] at q; exact ⟨q.1, wq_wp t h q.2⟩
 | .it g a b, e, f, Q, h, q => by
  simp only [Tr.wq] at q
  cases ha : a.cl f <;> cases hb : b.cl f <;> rw [ha, hb] at q <;> simp only at q
  ·exact ⟨fun hg => wq_wp a h (q.1 hg), fun hg => wq_wp b h (q.2 hg)⟩
  ·exact ⟨fun hg => wq_wp a h (q hg), fun _ => cl_wp b h hb⟩
  ·exact ⟨fun _ => cl_wp a h ha, fun hg => wq_wp b h (q hg)⟩
  ·exact ⟨fun _ => cl_wp a h ha, fun _ => cl_wp b h hb⟩
 | .jn n a ps k, e, f, Q, h, q => by
  refine wq_wp a (f := jnF n (k.cl f) f) (FOk.jn h (fun hb x S e' hj => ?_) (fun x S e' hj hq => by rw [hj]; exact hq)) ?_
  ·rw [hj]; exact cl_wp k h hb
  ·exact wq_mono a (fun x S e' r => by
    cases hx : x.isJ n with
    | true => rw [hx] at r; exact wq_wp k h r
    | false => rw [hx] at r; exact r) q
 | .lp m xid bd ix ca a k, e, f, Q, h, q => by
  simp only [Tr.wq] at q
  cases hc : k.cl f with
  | true =>
   rw [hc] at q
   obtain ⟨I, h1, h2⟩ := q
   refine ⟨I, h1, fun i v hi hv => ?_, fun v _ => cl_wp k h hc⟩
   refine wq_wp a (f := jnF m false (xtF xid true f)) (FOk.jn (FOk.xt h (Q := fun x S e' => bif x.isX xid then k.wp M (setC e ca (pkL _ (caE S e' ca))) Q else Q x S e') (fun _ x S e' hj => by rw [hj]; exact cl_wp k h hc) (fun x S e' hj hq => by rw [hj]; exact hq)) (fun hb => by cases hb) (fun x S e' hj hq => by rw [hj]; exact hq)) ?_
   refine wq_mono a (fun x S e' r => ?_) (h2 i v hi hv)
   cases hx : x.isJ m with
   | true => rw [hx] at r; exact r
   | false =>
    rw [hx] at r
    cases hy : x.isX xid with
    | true => exact cl_wp k h hc
    | false => rw [hy] at r; exact r
  | false =>
   rw [hc] at q
   obtain ⟨I, h1, h2, h3⟩ := q
   refine ⟨I, h1, fun i v hi hv => ?_, fun v hv => wq_wp k h (h3 v hv)⟩
   refine wq_wp a (f := jnF m false (xtF xid false f)) (FOk.jn (FOk.xt h (Q := fun x S e' => bif x.isX xid then k.wp M (setC e ca (pkL _ (caE S e' ca))) Q else Q x S e') (fun hb => by cases hb) (fun x S e' hj hq => by rw [hj]; exact hq)) (fun hb => by cases hb) (fun x S e' hj hq => by rw [hj]; exact hq)) ?_
   refine wq_mono a (fun x S e' r => ?_) (h2 i v hi hv)
   cases hx : x.isJ m with
   | true => rw [hx] at r; exact r
   | false =>
    rw [hx] at r
    cases hy : x.isX xid with
    | true => rw [hy] at r; exact wq_wp k h r
    | false => rw [hy] at r; exact r
 | .lg m xid ca a k, e, f, Q, h, q => by
  obtain ⟨I, μ, h1, h2, h3⟩ := q
  refine ⟨I, μ, h1, h2, fun v hv => ?_⟩
  refine wq_wp a (f := jnF m false (xtF xid (k.cl f) f)) (FOk.jn (FOk.xt h (Q := fun x S e' => bif x.isX xid then k.wp M (setC e ca (pkL _ (caE S e' ca))) Q else Q x S e') (fun hb x S e' hj => by rw [hj]; exact cl_wp k h hb) (fun x S e' hj hq => by rw [hj]; exact hq)) (fun hb => by cases hb) (fun x S e' hj hq => by rw [hj]; exact hq)) ?_
  refine wq_mono a (fun x S e' r => ?_) (h3 v hv)
  cases hx : x.isJ m with
  | true => rw [hx] at r; exact r
  | false =>
   rw [hx] at r
   cases hy : x.isX xid with
   | true => rw [hy] at r; exact wq_wp k h r
   | false => rw [hy] at r; exact r
 | .bad _, _, _, _, _, q => q.elim
end
def askT (M : List Md) (t : Tr) (e : Env) : Prop := t.wq M e (fun _ => true) fun _ _ _ => True
theorem ask_wp {M : List Md} {t : Tr} {e : Env} (h : askT M t e) : t.wp M e fun _ _ _ => True := wq_wp t (fun _ _ _ _ => trivial) h
section
variable {P : Program} {G : Glob} {M : List Md} {inl : Nat → List SV → SS → Tr}
theorem md_wq (hI : InlOk P G M inl) {f : Nat} {m : Md} (t : Tr) (ht : inl f (svsOf 0 m.ps) (S00 m.ps.length) = t) (he : t.nrms.all (endOk m.rs) = true)
    (hs : ∀ x, askT M t (envA 0 (upL m.ps x)) = preOk m.pre x) (hm : ∀ x, modelR M t m.rs (envA 0 (upL m.ps x)) = m.m x) : MdOk P G f m :=
  md_wp hI t ht he (fun x hx => ask_wp (by rw [hs x]; exact hx)) hm
theorem md_wpP (hI : InlOk P G M inl) {f : Nat} {m : Md} (t : Tr) (ht : inl f (svsOf 0 m.ps) (S00 m.ps.length) = t) (he : t.nrms.all (endOk m.rs) = true)
    (hs : ∀ x, preOk m.pre x → askT M t (envA 0 (upL m.ps x))) (hm : ∀ x, preOk m.pre x → modelR M t m.rs (envA 0 (upL m.ps x)) = m.m x) : MdOk P G f m :=
  md_ok hI t ht he (fun x hx => (wp_ok t (ask_wp (hs x hx))).1) fun x hx => by rw [← hm x hx]; exact (fold2_eq t _ _ _).symm
theorem md_wqB (hI : InlOk P G M inl) {f : Nat} {t : TypeId} {c : TC} {ps rs : List Rt} {pre : Option ((pL (.st c :: ps)).den → Prop)} {mm : (pL (.st c :: ps)).den → (pL (.st c :: rs)).den} (T : Tr) (ht : inl f (.px 0 0 :: svsOf 1 ps) (S0B t c ps.length) = T)
    (he : T.nrms.all (endOkB t c rs) = true) (hs : ∀ x, askT M T (envA 0 (upL (.st c :: ps) x)) = preOk pre x) (hm : ∀ x, modelB M T t c rs (envA 0 (upL (.st c :: ps) x)) = mm x) : MdOkB P G f t ⟨.st c :: ps, .st c :: rs, pre, mm⟩ :=
  md_okB hI T ht he (fun x hx => (wp_ok T (ask_wp (by rw [hs x]; exact hx))).1) hm
end
end Go.Av
