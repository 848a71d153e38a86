/- Messages: the law of safety, in plain Lean. Conditions: none. -/
import Derived.Test.YtnnlaccdendkpaaPB12
namespace Go.Proofs.Ytnnlaccdendkpaa
open Go Go.Av Go.Hh Go.Proofs
theorem iter_push {α β : Type} (l : List α) (f : α → β) (b : Nat → List β → List β) (hb : ∀ k a x, l[k]? = some x → b k a = a ++ [f x]) : ∀ (m k : Nat) (a : List β), k + m = l.length → iterN b k m a = a ++ (l.drop k).map f
 | 0, k, a, hk => by rw [iterN, List.drop_of_length_le (by omega)]; simp
 | m + 1, k, a, hk => by
  have hl : k < l.length := by omega
  rw [iterN, hb k a _ (List.getElem?_eq_getElem hl), iter_push l f b hb m (k + 1) _ (by omega), List.drop_eq_getElem_cons hl, List.map_cons, List.append_assoc, List.singleton_append]
def plainA (a : Attr) : Attr := ⟨a.name, a.kind, a.min, a.max, a.enum, a.writable, false⟩
def plainC (c : Cluster) : Cluster := ⟨c.name, c.attrs.map plainA, c.commands, c.events⟩
theorem safe_l2 (h : Home) (m : MsgV) (s : ByteArray) (c : Cluster) : lSafeM_L2 h m s c [] = c.attrs.map plainA := by
 unfold lSafeM_L2
 rw [iter_push c.attrs plainA _ (fun k a x hx => by unfold lSafeM_B2; rw [hx]; rfl) _ 0 [] (by omega), List.drop_zero, List.nil_append]
theorem safe_l1 (h : Home) (m : MsgV) (s : ByteArray) : lSafeM_L1 h m s [] = h.clusters.map plainC := by
 unfold lSafeM_L1
 rw [iter_push h.clusters plainC _ (fun k a x hx => by unfold lSafeM_B1; rw [hx]; dsimp only; rw [safe_l2]; rfl) _ 0 [] (by omega), List.drop_zero, List.nil_append]
theorem attr_plain {c : Cluster} {x : ByteArray} (hc : ∀ a ∈ c.attrs, a.safety = false) : (attrM c x).1.safety = false := by
 unfold attrM
 cases hs : attrM_L1 c x with
 | none => rfl
 | some r =>
  obtain ⟨j, _, _, hj, _⟩ := scanN_get hs
  unfold attrM_B1 at hj
  cases he : c.attrs[j]? with
  | none => rw [he] at hj; cases hj
  | some e =>
   rw [he] at hj
   dsimp only at hj
   cases hb : beqS e.name x with
   | false => rw [hb] at hj; cases hj
   | true =>
    rw [hb] at hj
    simp only [cond_true, Option.some.injEq] at hj
    subst hj
    exact hc e (List.mem_of_getElem? he)
theorem safe_plain {h : Home} {k : KeyV} (hp : ∀ c ∈ h.clusters, ∀ a ∈ c.attrs, a.safety = false) : safeM h k = false := by
 unfold safeM findM
 cases hf : (devFindM h k.dev).2 with
 | false => rfl
 | true =>
  have hc : ∀ a ∈ ((mget (clustersM h) k.cluster).getD (⟨⟨#[]⟩, [], [], []⟩ : Cluster)).attrs, a.safety = false := by
   rw [clusters_eq (all_names (devCheck_all (devFind_check hf)))]
   rcases mget_map (l := h.clusters) (x := k.cluster) with ⟨h1, _⟩ | ⟨j, c, h1, h2, _, _⟩
   ·rw [h1]; simp
   ·rw [h1]; exact hp c (List.mem_of_getElem? h2)
  rw [Bool.and_eq_false_iff]
  right
  cases ((!true || decide (nIndexM (((devFindM h k.dev).1).clusters) k.cluster < 0)) || !((attrM ((mget (clustersM h) k.cluster).getD (⟨⟨#[]⟩, [], [], []⟩ : Cluster)) k.attr).2)) with
  | true => rfl
  | false => exact attr_plain hc
theorem scan_true {b : Nat → Option Bool} (hb : ∀ j r, b j = some r → r = true) {n : Nat} {d : Bool} : (scanN b 0 n).getD d = true ↔ (∃ j, j < n ∧ b j = some true) ∨ d = true := by
 cases hs : scanN b 0 n with
 | none =>
  refine ⟨fun h => .inr h, fun h => ?_⟩
  rcases h with ⟨j, hj, h⟩ | h
  ·rw [scan_at hs hj] at h; cases h
  ·exact h
 | some r =>
  obtain ⟨j, _, hj, h1, _⟩ := scanN_get hs
  have hr := hb j r h1
  subst hr
  exact ⟨fun _ => .inl ⟨j, by omega, h1⟩, fun _ => rfl⟩
theorem urg_b1 {h : Home} {m : MsgV} {j : Nat} {r : Bool} (hj : urgentM_B1 h m j = some r) : r = true := by
 unfold urgentM_B1 at hj
 split at hj
 ·rw [cond_eq_ite] at hj
  split at hj
  ·cases hj; rfl
  ·cases hj
 ·cases hj
theorem urg_b2 {h : Home} {m : MsgV} {j : Nat} {r : Bool} (hj : urgentM_B2 h m j = some r) : r = true := by
 unfold urgentM_B2 at hj
 split at hj
 ·rw [cond_eq_ite] at hj
  split at hj
  ·cases hj; rfl
  ·cases hj
 ·cases hj
theorem urg_spec (h : Home) (m : MsgV) : urgentM h m = true ↔ mCheckM m = 0 ∧ ((hasNamesM m.kind = true ∧ ∃ j, j < (keysM h m.dev).length ∧ urgentM_B1 h m j = some true) ∨ ∃ j, j < m.items.length ∧ urgentM_B2 h m j = some true) := by
 have l1 : ∀ d, (urgentM_L1 h m).getD d = true ↔ _ := fun d => scan_true (fun j r hj => urg_b1 hj) (d := d)
 have l2 : ∀ d, (urgentM_L2 h m).getD d = true ↔ _ := fun d => scan_true (fun j r hj => urg_b2 hj) (d := d)
 unfold urgentM
 cases hc : (mCheckM m != 0) with
 | true =>
  have : mCheckM m ≠ 0 := by simpa using hc
  simp [this]
 | false =>
  have h0 : mCheckM m = 0 := bz hc
  cases hasNamesM m.kind with
  | true => simp only [cond_true, cond_false, l1, l2, h0, true_and, Bool.false_eq_true, or_false]
  | false => simp only [cond_false, l2, h0, true_and, Bool.false_eq_true, or_false, false_and, false_or]
theorem lSafe_true (h : Home) (m : MsgV) (s : ByteArray) : lSafeM h m s = true := by
 unfold lSafeM
 rw [awake_true, safe_l1]
 cases ((!(smallM m) || !(modestM h)) || decide ((s.size : Int) > 600)) with
 | true => rfl
 | false =>
  have hp : urgentM (⟨h.clusters.map plainC, h.devices⟩ : Home) m = false := by
   cases hu : urgentM (⟨h.clusters.map plainC, h.devices⟩ : Home) m with
   | false => rfl
   | true =>
    have hs : ∀ k, safeM (⟨h.clusters.map plainC, h.devices⟩ : Home) k = false := fun k => safe_plain fun c hc a ha => by
     obtain ⟨c0, _, rfl⟩ := List.mem_map.1 hc
     obtain ⟨a0, _, rfl⟩ := List.mem_map.1 ha
     rfl
    rcases ((urg_spec _ _).1 hu).2 with ⟨_, j, _, hj⟩ | ⟨j, _, hj⟩
    ·unfold urgentM_B1 at hj
     split at hj
     ·rw [hs, Bool.and_false] at hj; cases hj
     ·cases hj
    ·unfold urgentM_B2 at hj
     split at hj
     ·rw [hs] at hj; cases hj
     ·cases hj
  rw [hp]
  simp only [cond_false]
  cases hq : (!(urgentM h m) || ((m.items.length : Int) == 0)) with
  | true => rfl
  | false =>
   simp only [cond_false]
   rw [Bool.or_eq_false_iff] at hq
   have hu : urgentM h m = true := by simpa using hq.1
   have hn : m.items ≠ [] := fun h0 => by rw [h0] at hq; exact absurd hq.2 (by decide)
   have hl : 0 < m.items.length := List.length_pos_iff.2 hn
   have hx : ((m.items.length : Int) - 1).toNat < m.items.length := by omega
   rw [List.getElem?_eq_getElem hx]
   dsimp only
   generalize (⟨⟨(m.items[((m.items.length : Int) - 1).toNat]).key.dev, (m.items[((m.items.length : Int) - 1).toNat]).key.cluster, s⟩, (m.items[((m.items.length : Int) - 1).toNat]).value, (m.items[((m.items.length : Int) - 1).toNat]).version⟩ : ItemV) = x
   cases hc : (mCheckM (⟨m.kind, m.dev, m.epoch, m.version, m.items ++ [x], m.cluster, m.name, m.data⟩ : MsgV) != 0) with
   | true => rfl
   | false =>
    simp only [cond_false, Bool.and_true]
    refine (urg_spec _ _).2 ⟨bz hc, ?_⟩
    rcases ((urg_spec _ _).1 hu).2 with ⟨h1, j, h2, hj⟩ | ⟨j, h2, hj⟩
    ·exact .inl ⟨h1, j, h2, hj⟩
    ·refine .inr ⟨j, by show j < (m.items ++ [x]).length; rw [List.length_append]; omega, ?_⟩
     unfold urgentM_B2 at hj ⊢
     show (match (m.items ++ [x])[j]? with | some e2_ => (bif safeM h e2_.key then some true else none) | none => none) = some true
     rw [List.getElem?_append_left h2]
     exact hj
end Go.Proofs.Ytnnlaccdendkpaa
