/- The AV calculus, part Y: from data that is read to immutable values, and from a contract to what a row asks. Conditions: none. -/
import Derived.Test.YtnnlaccdendkpaaVMx
import Derived.ProofKit
import Derived.LaidMore
import Derived.OpenShut
import Derived.MakeChecks
import Derived.ChangeArms
import Derived.ReadAgain
import Derived.ChangeBears
import Derived.Stop.Joined
namespace Go.Av
open Go Go.ChangeShapes Go.WideShapes Go.RowKit

inductive Sh (P : Program) : TypeId → List RV → Prop where
 | bool {t : TypeId} (b : Bool) : P.underlying t = some .bool → Sh P t [.v (.bool b)]
 | int {t : TypeId} {k : IntKind} (n : Int) : P.underlying t = some (.int k) → (Lit.int k n).wf = true → Sh P t [.v (.int k n)]
 | str {t : TypeId} (s : ByteArray) : P.underlying t = some .string → s.size ≤ maxLen → Sh P t [.v (.string s)]
 | slice {t e : TypeId} (es : List (List RV)) : P.underlying t = some (.slice e) → es.length ≤ maxLen → (∀ x ∈ es, Sh P e x) → Sh P t [.sl (P.cellsOf e) es]
 | struct {t : TypeId} {fs : Array Field} (parts : List (List RV)) : P.underlying t = some (.struct fs) → parts.length = fs.toList.length → (∀ (i : Nat) (f : Field) (p : List RV), fs.toList[i]? = some f → parts[i]? = some p → Sh P f.type p) → Sh P t parts.flatten
 | array {t e : TypeId} {n : Nat} (parts : List (List RV)) : P.underlying t = some (.array n e) → parts.length = n → (∀ p ∈ parts, Sh P e p) → Sh P t parts.flatten

def plainTy (P : Program) : Nat → TypeId → Bool
 | 0, _ => false
 | n + 1, t => decide (t < P.types.size) && match P.underlying t with
  | some .bool => true
  | some (.int _) => true
  | some .string => true
  | some (.slice e) => plainTy P n e
  | some (.array _ e) => plainTy P n e
  | some (.struct fs) => fs.toList.all fun f => plainTy P n f.type
  | _ => false

theorem mapM_some {α β : Type} {f : α → Option β} : ∀ {l : List α} {r : List β}, l.mapM f = some r → r.length = l.length ∧ ∀ (i : Nat) (x : α), l[i]? = some x → ∃ y, f x = some y ∧ r[i]? = some y
 | [], r, h => by
  simp at h
  subst h
  exact ⟨rfl, by simp⟩
 | a :: l, r, h => by
  rw [List.mapM_cons] at h
  cases ha : f a with
  | none => simp [ha] at h
  | some b =>
   cases hl : l.mapM f with
   | none => simp [ha, hl] at h
   | some bs =>
    simp [ha, hl] at h
    subst h
    obtain ⟨h1, h2⟩ := mapM_some hl
    refine ⟨by simp [h1], fun i x hx => ?_⟩
    cases i with
    | zero => simp at hx; subst hx; exact ⟨b, ha, rfl⟩
    | succ i => simpa using h2 i x (by simpa using hx)

section
variable {H : Type} {enc : TypeId × Value → H} {P : Program} {w : World}

abbrev allRo (w : World) : Nat → Prop := fun b => b < w.heap.size
theorem cell_lt {a : Addr} {c : Value} (h : w.cell? a = some c) : a.block < w.heap.size := by
 rcases Nat.lt_or_ge a.block w.heap.size with h1 | h1
 ·exact h1
 ·exfalso
  have : w.heap[a.block]? = none := Array.getElem?_eq_none h1
  simp [World.cell?, this] at h

def Fits (P : Program) (w : World) (t : TypeId) (cs : List Value) : Prop := ∃ rs, Sh P t rs ∧ rs.length = cs.length ∧ ∀ j r, rs[j]? = some r → RRel w (allRo w) r (cs.getD j undef)

theorem fields_fit : ∀ (fs : List Field) (off : Nat) (cs : List Value), (∀ (j : Nat) (f : Field), fs[j]? = some f → f.offset = off + ((fs.take j).map fun f => P.cellsOf f.type).sum) →
    (∀ f ∈ fs, Fits P w f.type ((cs.drop f.offset).take (P.cellsOf f.type))) → off + (fs.map fun f => P.cellsOf f.type).sum ≤ cs.length →
    ∃ parts : List (List RV), parts.length = fs.length ∧ (∀ (i : Nat) (f : Field) (p : List RV), fs[i]? = some f → parts[i]? = some p → Sh P f.type p) ∧ parts.flatten.length = (fs.map fun f => P.cellsOf f.type).sum ∧
      ∀ j r, parts.flatten[j]? = some r → RRel w (allRo w) r (cs.getD (off + j) undef)
  | [], off, cs, _, _, _ => ⟨[], rfl, by simp, by simp, by simp⟩
  | f :: fs, off, cs, ho, hf, hl => by
    have h0 : f.offset = off := by have := ho 0 f rfl; simpa using this
    obtain ⟨rs, h1, h2, h3⟩ := hf f (by simp)
    simp only [List.map_cons, List.sum_cons] at hl
    have hlen : rs.length = P.cellsOf f.type := by rw [h2, h0]; simp; omega
    obtain ⟨parts, g1, g2, g3, g4⟩ := fields_fit fs (off + P.cellsOf f.type) cs (fun j q hq => by
      have := ho (j + 1) q (by simpa using hq)
      simp only [List.take_succ_cons, List.map_cons, List.sum_cons] at this
      omega) (fun q hq => hf q (by simp [hq])) (by omega)
    refine ⟨rs :: parts, by simp [g1], fun i q p hq hp => ?_, by simp [g3, hlen], fun j r hj => ?_⟩
    · cases i with
      | zero =>
        simp at hq hp
        subst hq; subst hp
        exact h1
      | succ i => exact g2 i q p (by simpa using hq) (by simpa using hp)
    · rw [List.flatten_cons] at hj
      by_cases hjl : j < rs.length
      · rw [List.getElem?_append_left hjl] at hj
        have := h3 j r hj
        have hjc : j < P.cellsOf f.type := by omega
        rw [h0] at this
        simpa [List.getD, List.getElem?_take, List.getElem?_drop, hjc] using this
      · rw [List.getElem?_append_right (by omega)] at hj
        have := g4 _ r hj
        rw [show off + P.cellsOf f.type + (j - rs.length) = off + j from by omega] at this
        exact this

theorem rows_fit {e : TypeId} (n : Nat) : ∀ (k : Nat) (css : Nat → List Value), (∀ i, i < k → Fits P w e (css i) ∧ (css i).length = n) →
    ∃ es : List (List RV), es.length = k ∧ (∀ x ∈ es, Sh P e x ∧ x.length = n) ∧ ∀ j r, es.flatten[j]? = some r → RRel w (allRo w) r ((css (j / n)).getD (j % n) undef)
  | 0, _, _ => ⟨[], rfl, by simp, by simp⟩
  | k + 1, css, h => by
    obtain ⟨⟨rs, h1, h2, h3⟩, hn⟩ := h 0 (by omega)
    obtain ⟨es, g1, g2, g3⟩ := rows_fit n k (fun i => css (i + 1)) fun i hi => h (i + 1) (by omega)
    refine ⟨rs :: es, by simp [g1], fun x hx => ?_, fun j r hj => ?_⟩
    · rcases List.mem_cons.1 hx with rfl | hx
      · exact ⟨h1, by omega⟩
      · exact g2 x hx
    · rw [List.flatten_cons] at hj
      by_cases hjl : j < rs.length
      · rw [List.getElem?_append_left hjl] at hj
        have hjn : j < n := by omega
        rw [Nat.div_eq_of_lt hjn, Nat.mod_eq_of_lt hjn]
        exact h3 j r hj
      · rw [List.getElem?_append_right (by omega)] at hj
        have := g3 _ r hj
        have hnp : 0 < n := by
          rcases Nat.eq_zero_or_pos n with h0 | h0
          · exfalso
            have hfl : es.flatten.length = es.length * n := length_flatten_of fun x hx => (g2 x hx).2
            have := (List.getElem?_eq_some_iff.1 hj).1
            rw [hfl, h0] at this
            simp at this
          · exact h0
        have e1 : j - rs.length = j - n := by omega
        rw [e1] at this
        have e2 : (j - n) / n + 1 = j / n := (Nat.div_eq_sub_div hnp (by omega)).symm
        have e3 : (j - n) % n = j % n := (Nat.mod_eq_sub_mod (by omega)).symm
        simp only [e2, e3] at this
        exact this

theorem one_fit {t : TypeId} {r : RV} {c : Value} (h : Sh P t [r]) (hr : RRel w (allRo w) r c) : Fits P w t [c] :=
 ⟨[r], h, rfl, fun j x hj => by
  cases j with
  | zero => simp at hj; subst hj; exact hr
  | succ j => simp at hj⟩
theorem cells_some {base : Nat} {a : Addr} {n : Nat} {l : List Value} (h : w.cells? base a n = some l) : l.length = n ∧ ∀ i, i < n → w.cell? (a.add i) = l[i]? := by
 unfold World.cells? at h
 split at h
 ·obtain ⟨h1, h2⟩ := mapM_some h
  refine ⟨by simpa using h1, fun i hi => ?_⟩
  obtain ⟨y, hy, hl⟩ := h2 i i (by simp [hi])
  rw [hl, hy]
 ·cases h

theorem trod_fits (K : Kids P (· < P.types.size)) : ∀ (m n : Nat) (t : TypeId) (cs : List Value) (x : DataW H × List MemPlace) {base : Nat} {sp : Nat → Bool} {held : Bool}, plainTy P m t = true →
    DataW.trod enc P w base sp held n t cs = some x → Fits P w t cs
  | 0, _, _, _, _, _, _, _, hp, _ => by simp [plainTy] at hp
  | m + 1, n, t, cs, x, base, sp, held, hp, h => by
    simp only [plainTy, Bool.and_eq_true, decide_eq_true_eq] at hp
    obtain ⟨hrow, hp⟩ := hp
    cases hu : P.underlying t with
    | none => rw [hu] at hp; cases hp
    | some d =>
      rw [hu] at hp
      cases d with
      | bool =>
        obtain ⟨b, rfl, _⟩ := DataW.trod_bool hu h
        exact one_fit (.bool b hu) (.v _ rfl)
      | int k =>
        obtain ⟨b, rfl, _, hw⟩ := DataW.trod_int hu h
        exact one_fit (.int b hu hw) (.v _ rfl)
      | string =>
        obtain ⟨b, rfl, _, hw⟩ := DataW.trod_string hu h
        exact one_fit (.str b hu hw) (.v _ rfl)
      | slice e =>
        rcases DataW.trod_slice hu h with ⟨rfl, _⟩ | ⟨a, len, cap, elems, rest, k, rfl, rfl, _, _, hle, hcm, hel, hat, _⟩
        · exact one_fit (.slice [] hu (Nat.zero_le _) (by simp)) (.sl _ [] none 0 (fun _ => undef) (Nat.le_refl _) (Nat.zero_le _) (by simp) (by simp) (by simp))
        · have hcss : ∀ i, i < len → ∃ l, w.cells? base (a.add (i * P.cellsOf e)) (P.cellsOf e) = some l ∧ Fits P w e l := by
            intro i hi
            have h1 := hat i hi
            rw [List.getElem?_eq_getElem (by omega)] at h1
            cases hc : w.cells? base (a.add (i * P.cellsOf e)) (P.cellsOf e) with
            | none => rw [hc] at h1; cases h1
            | some l => rw [hc] at h1; exact ⟨l, rfl, trod_fits K m k e l _ hp h1⟩
          obtain ⟨es, g1, g2, g3⟩ := rows_fit (P := P) (w := w) (e := e) (P.cellsOf e) len (fun i => (w.cells? base (a.add (i * P.cellsOf e)) (P.cellsOf e)).getD []) fun i hi => by
            obtain ⟨l, h1, h2⟩ := hcss i hi
            rw [h1]
            exact ⟨h2, (cells_some h1).1⟩
          refine one_fit (.slice es hu (by omega) fun x hx => (g2 x hx).1) ?_
          have hlen : es.length = len := g1
          rw [← hlen]
          refine .sl _ es (some a) cap (fun j => ((w.cells? base (a.add (j / P.cellsOf e * P.cellsOf e)) (P.cellsOf e)).getD []).getD (j % P.cellsOf e) undef) (by omega) hcm (fun x hx => (g2 x hx).2) (fun _ => ⟨a, rfl, fun j hj => ?_⟩) g3
          have hnp : 0 < P.cellsOf e := by
            rcases Nat.eq_zero_or_pos (P.cellsOf e) with h0 | h0
            · rw [h0] at hj; simp at hj
            · exact h0
          have hdl : j / P.cellsOf e < len := by rw [Nat.div_lt_iff_lt_mul hnp]; rw [hlen] at hj; exact hj
          have hmn : j % P.cellsOf e < P.cellsOf e := Nat.mod_lt _ hnp
          obtain ⟨l, h1, _⟩ := hcss _ hdl
          obtain ⟨h2, h3⟩ := cells_some h1
          have h4 := h3 _ hmn
          rw [addAdd, Nat.mul_comm, Nat.div_add_mod] at h4
          rw [h1]
          have h5 : w.cell? (a.add j) = some (l.getD (j % P.cellsOf e) undef) := by
            rw [h4]
            have : j % P.cellsOf e < l.length := by omega
            simp [List.getD, List.getElem?_eq_getElem this]
          exact ⟨by have := cell_lt h5; rwa [addB] at this, h5⟩
      | array k e =>
        obtain ⟨xs, q, rfl, _, hcl, hxl, hat⟩ := DataW.trod_array hu h
        obtain ⟨es, g1, g2, g3⟩ := rows_fit (P := P) (w := w) (e := e) (P.cellsOf e) k (fun i => (cs.drop (i * P.cellsOf e)).take (P.cellsOf e)) fun i hi => by
          have h1 := hat i hi
          rw [List.getElem?_eq_getElem (by omega)] at h1
          refine ⟨trod_fits K m q e _ _ hp h1, ?_⟩
          have h2 := Nat.mul_le_mul_right (P.cellsOf e) (show i + 1 ≤ k from hi)
          rw [Nat.succ_mul] at h2
          have := (K.array hrow hu).2
          simp
          omega
        refine ⟨es.flatten, .array es hu g1 fun p hp => (g2 p hp).1, ?_, fun j r hj => ?_⟩
        · rw [length_flatten_of fun x hx => (g2 x hx).2, g1, hcl, (K.array hrow hu).2]
        · have := g3 j r hj
          have hjl := (List.getElem?_eq_some_iff.1 hj).1
          have hnp : 0 < P.cellsOf e := by
            rcases Nat.eq_zero_or_pos (P.cellsOf e) with h0 | h0
            · rw [length_flatten_of fun x hx => (g2 x hx).2, h0] at hjl; simp at hjl
            · exact h0
          have hmn : j % P.cellsOf e < P.cellsOf e := Nat.mod_lt _ hnp
          have hm : j / P.cellsOf e * P.cellsOf e + j % P.cellsOf e = j := by rw [Nat.mul_comm]; exact Nat.div_add_mod _ _
          simpa [List.getD, List.getElem?_take, List.getElem?_drop, hmn, hm] using this
      | struct fs =>
        obtain ⟨xs, q, rfl, _, hcl, hxl, hat⟩ := DataW.trod_struct hu h
        obtain ⟨_, hsum, hoff⟩ := K.struct hrow hu
        obtain ⟨parts, g1, g2, g3, g4⟩ := fields_fit (P := P) (w := w) fs.toList 0 cs (fun j f hf => by rw [hoff j f hf]; simp) (fun f hf => by
          obtain ⟨i, hi, rfl⟩ := List.mem_iff_getElem.1 hf
          have hia : fs[i]? = some fs.toList[i] := by simp at hi; simp [hi]
          have h1 := hat i _ hia
          have hix : i < xs.length := by rw [hxl]; simpa using hi
          rw [List.getElem?_eq_getElem hix] at h1
          rw [List.all_eq_true] at hp
          exact trod_fits K m q _ _ _ (hp _ (List.getElem_mem hi)) h1) (by rw [hcl, hsum]; omega)
        exact ⟨parts.flatten, .struct parts hu g1 g2, by rw [g3, hcl, hsum], fun j r hj => by have := g4 j r hj; simpa using this⟩
      | _ => cases hp

theorem arg_fits (K : Kids P (· < P.types.size)) {m : Nat} {t : TypeId} (hp : plainTy P m t = true) {v : Value} {d : DataW H} {ps : List MemPlace} {base : Nat} {sp : Nat → Bool} {held : Bool} (h : DataW.Trod enc P w base sp held t v d ps) : Fits P w t v.cells.toList := by
 obtain ⟨n, hn⟩ := h
 exact trod_fits K m n t _ _ hp hn
theorem Fits.one {t : TypeId} {v : Value} (h : Fits P w t v.cells.toList) (hv : v.cells = #[v]) {β : Nat → Value} {N : Nat} : ∃ r, Sh P t [r] ∧ ARel w (allRo w) [] β N (.rv r) v := by
 obtain ⟨rs, h1, h2, h3⟩ := h
 rw [hv] at h2
 match rs, h2, h1, h3 with
 | [r], _, h1, h3 =>
  have := h3 0 r rfl
  rw [hv] at this
  exact ⟨r, h1, .rv _ _ (by simpa using this)⟩

theorem Sh.str_inv {t : TypeId} {rs : List RV} (h : Sh P t rs) (hu : P.underlying t = some .string) : ∃ s, rs = [.v (.string s)] ∧ s.size ≤ maxLen := by
 cases h with
 | str s hu' hw => exact ⟨s, rfl, hw⟩
 | bool b hu' => rw [hu] at hu'; cases hu'
 | int s hu' => rw [hu] at hu'; cases hu'
 | slice es hu' => rw [hu] at hu'; cases hu'
 | struct parts hu' => rw [hu] at hu'; cases hu'
 | array parts hu' => rw [hu] at hu'; cases hu'
def oneTy (P : Program) (t : TypeId) : Bool :=
 match P.underlying t with
 | some .bool => true
 | some (.int _) => true
 | some .string => true
 | some (.slice _) => true
 | _ => false
theorem okOne {r : Reach} {b0 : Nat} {t : TypeId} {v : Value} (h : Value.okWide P w r b0 t v) (hs : oneTy P t = true) : v.cells = #[v] := by
 unfold oneTy at hs
 split at hs
 ·rename_i hu
  simp only [Value.okWide, hu, Cell.okWide, Cell.ok] at h
  cases v <;> first | rfl | exact h.elim
 ·rename_i hu
  simp only [Value.okWide, hu, Cell.okWide, Cell.ok] at h
  cases v <;> first | rfl | exact h.elim
 ·rename_i hu
  simp only [Value.okWide, hu, Cell.okWide, Cell.ok] at h
  cases v <;> first | rfl | exact h.elim
 ·rename_i hu
  simp only [Value.okWide, hu, Cell.okWide, Cell.ok] at h
  cases v <;> first | rfl | exact h.elim
 ·cases hs
theorem sameAt_of {w' : World} {p : MemPlace} (hp : p.block < w.heap.size) (h : ∀ b, b < w.heap.size → w'.heap[b]? = w.heap[b]?) : w.sameAt w' p := by
 cases p with
 | cell b off => exact World.cell?_of_block (a := ⟨b, off, none⟩) (h b hp)
 | map b => exact h b hp
theorem trodAll_carry {w' : World} (h : ∀ b, b < w.heap.size → w'.heap[b]? = w.heap[b]?) {base : Nat} {sp : Nat → Bool} {held : Bool} : ∀ {ts : List TypeId} {vs : List Value} {ds : List (DataW H)} {ps : List MemPlace}, DataW.TrodAll enc P w base sp held ts vs ds ps → DataW.TrodAll enc P w' base sp held ts vs ds ps
 | [], [], [], _, h => h
 | _ :: _, _ :: _, _ :: _, _, ⟨p, q, ⟨n, hn⟩, h2, e⟩ =>
  ⟨p, q, ⟨n, DataW.trod_carry n _ _ _ hn fun x hx => sameAt_of (DataW.trod_lt n _ _ _ hn x hx) h⟩, trodAll_carry h h2, e⟩
theorem keptBut_same {w' : World} {may : MemPlace → Prop} (h1 : w'.os = w.os) (h2 : w'.output = w.output) (h : ∀ b, b < w.heap.size → w'.heap[b]? = w.heap[b]?) : w.keptBut w' may := by
 refine ⟨h1, h2, fun i hi => ?_⟩
 rw [h i hi]
 cases hw : w.heap[i]? with
 | none => rfl
 | some o =>
  cases o with
  | cells c t fr => exact ⟨rfl, rfl, rfl, fun _ _ => rfl⟩
  | map es clock => exact .inr ⟨rfl, rfl⟩
  | _ => rfl

theorem law_post {G : Glob} {f : FuncId} {fn : Func} {s : ChangeSpec} {args : Array Value} {ds gs : List (DataW H)} {before : List MemPlace} {tb : TypeId} {avs' : List AV} {β : Nat → Value}
    (hW : DataW.Whole enc P fn.params.toList s.vars false w args.toList ds gs before) (hv : s.vars = []) (hs : s.fn H (ds ++ gs) = { results := [.lit (.bool true)], args := ds }) (hres : fn.resultTypes = #[tb]) (htb : P.underlying tb = some .bool)
    (K : Kids P (· < P.types.size)) (hz : ∀ t e, t < P.types.size → P.underlying t = some (.slice e) → 0 < P.cellsOf e) (hts : ∀ t ∈ fn.params.toList, t < P.types.size)
    (hlen : args.size = avs'.length) (hargs : ∀ i x, avs'[i]? = some x → ARel w (allRo w) [] β 0 x (args.getD i undef)) (hG : GRel w (allRo w) G) (hc : ACalls P G f avs' [] 0 fun r τ => r = vb true ∧ τ = []) :
    Calls P f args w fun e w' => ∃ v, e = .returned v ∧ s.post enc P fn false true false false w args v w' := by
  refine Calls.mono (hc w β (allRo w) args hlen hargs ⟨by simp [hget], by simp [hget], fun b _ ⟨_, _, hg, _⟩ => by simp [hget] at hg, fun b hb => hb⟩ hG (by simp [hget])) fun e w' hq => ?_
  obtain ⟨v, r, σ', β', ro', n', rfl, ⟨rfl, rfl⟩, hrel, _, ht⟩ := hq
  obtain rfl := ARel.val hrel
  have hh : ∀ b, b < w.heap.size → w'.heap[b]? = w.heap[b]? := fun b hb => ht.frame b hb fun ⟨_, _, hg, _⟩ => by simp [hget] at hg
  refine ⟨_, rfl, ds, gs, before, [], before, [], hW, ?_, ?_, ?_, keptBut_same ht.os ht.output hh, fun h => by cases h⟩
  · rw [hs, hres]
    exact trodAll_mk1 (shut_bool htb true)
  · rw [hs]
    have hlt : ∀ p ∈ before, (fun b => decide (b < w.heap.size)) p.block = true := fun p hp => by simpa using hW.lt p hp
    obtain ⟨p, q, h1, h2, rfl, _⟩ := hW
    rw [hv] at h2
    have hq : q = [] := by
      cases gs with
      | nil => exact h2
      | cons => cases h2
    subst hq
    rw [List.append_nil] at hlt ⊢
    exact trodAll_carry hh (h1.respare K hz hts hlt)
  · rw [hs, hv]
    rfl
end
end Go.Av
