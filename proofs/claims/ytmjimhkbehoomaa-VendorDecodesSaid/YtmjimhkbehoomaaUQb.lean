/- Devices: the program and the reference check the same. Conditions: none. -/
import Derived.Test.YtmjimhkbehoomaaUQa
import Derived.Test.YtmjimhkbehoomaaUB2
namespace Go.Proofs.Ytmjimhkbehoomaa
open Go Go.Av Go.Hh Go.Proofs
theorem loopS_congr {R A : Type} {b c : Nat → A → Step R A} (h : ∀ k a, b k a = c k a) : ∀ (m k : Nat) (a : A), loopS b k m a = loopS c k m a
  | 0, _, _ => rfl
  | m + 1, k, a => by
    unfold loopS
    rw [h]
    cases c k a with
    | ret r => rfl
    | brk a' => rfl
    | nxt a' => exact loopS_congr h m (k + 1) a'
/-- A loop that carries something that only it sees, and one that carries nothing. -/
theorem loopS_scan {R A : Type} {b : Nat → A → Step R A} {c : Nat → Option R} {n : Nat} (I : Nat → A → Prop)
    (h : ∀ k a, k < n → I k a → (∃ r, b k a = .ret r ∧ c k = some r) ∨ (∃ a', b k a = .nxt a' ∧ c k = none ∧ I (k + 1) a')) :
    ∀ (m k : Nat) (a : A), k + m = n → I k a → (∃ r, loopS b k m a = .inl r ∧ scanN c k m = some r) ∨ (∃ a', loopS b k m a = .inr a' ∧ scanN c k m = none)
  | 0, k, a, _, _ => .inr ⟨a, rfl, rfl⟩
  | m + 1, k, a, hk, ha => by
    rcases h k a (by omega) ha with ⟨r, h1, h2⟩ | ⟨a', h1, h2, h3⟩
    · exact .inl ⟨r, by simp [loopS, h1], by simp [scanN, h2]⟩
    · have := loopS_scan I h m (k + 1) a' (by omega) h3
      simpa [loopS, h1, scanN, h2] using this
theorem nIndex_eq (l : List ByteArray) (x : ByteArray) : nIndexM l x = r04IndexM l x := by
  show (scanN _ 0 _).getD (-1) = (scanN _ 0 _).getD (-1)
  congr 1
  refine scan_eq fun j hj => ?_
  unfold sIndexM_B1 r04IndexM_B1
  cases l[j]? with
  | none => rfl
  | some e => simp only [beqS_comm]
/-- What All gives when it accepts. -/
theorem all_names {l : List Cluster} (h : allM l = 0) : ∀ (k j : Nat) (c d : Cluster), l[k]? = some c → l[j]? = some d → j < k → d.name ≠ c.name := by
  intro k j c d hk hj hlt
  exact beqS_false.1 ((all_spec h).2.2 k j c d hk hj hlt)
theorem mget_map {l : List Cluster} {x : ByteArray} : (mget (l.map fun c => (c.name, c)) x = none ∧ ∀ c ∈ l, c.name ≠ x) ∨ ∃ (j : Nat) (c : Cluster), mget (l.map fun c => (c.name, c)) x = some c ∧ l[j]? = some c ∧ c.name = x ∧ ∀ (i : Nat) (d : Cluster), i < j → l[i]? = some d → d.name ≠ x := by
  induction l with
  | nil => exact .inl ⟨rfl, by simp⟩
  | cons e r ih =>
    by_cases he : e.name = x
    · exact .inr ⟨0, e, by simp [mget, he], rfl, he, fun i d hi => absurd hi (by omega)⟩
    · rcases ih with ⟨h1, h2⟩ | ⟨j, c, h1, h2, h3, h4⟩
      · exact .inl ⟨by simpa [mget, he] using h1, fun c hc => by rcases List.mem_cons.1 hc with rfl | hc; exact he; exact h2 c hc⟩
      · refine .inr ⟨j + 1, c, by simpa [mget, he] using h1, by simpa using h2, h3, fun i d hi hd => ?_⟩
        cases i with
        | zero => simp at hd; subst hd; exact he
        | succ i => exact h4 i d (by omega) (by simpa using hd)
theorem rclus_rel (h : Home) (x : ByteArray) : (rclusM h x = -1 ∧ mget (h.clusters.map fun c => (c.name, c)) x = none) ∨ ∃ (j : Nat) (c : Cluster), rclusM h x = (j : Int) ∧ h.clusters[j]? = some c ∧ mget (h.clusters.map fun c => (c.name, c)) x = some c := by
  rcases mget_map (l := h.clusters) (x := x) with ⟨h1, h2⟩ | ⟨j, c, h1, h2, h3, h4⟩
  · refine .inl ⟨?_, h1⟩
    unfold rclusM rclusM_L1
    rw [scan_none fun j hj => ?_]
    · rfl
    · unfold rclusM_B1
      rw [List.getElem?_eq_getElem hj]
      simp only [beqS_false.2 (h2 _ (List.getElem_mem hj)), cond_false]
  · refine .inr ⟨j, c, ?_, h2, h1⟩
    unfold rclusM rclusM_L1
    rw [scan_first (j := j) (r := (j : Int)) (getElem_lt h2) ?_ fun i hi => ?_]
    · rfl
    · unfold rclusM_B1
      rw [h2]
      simp only [beqS_true.2 h3, cond_true]
    · unfold rclusM_B1
      have hl : i < h.clusters.length := Nat.lt_trans hi (getElem_lt h2)
      rw [List.getElem?_eq_getElem hl]
      simp only [beqS_false.2 (h4 i _ hi (List.getElem?_eq_getElem hl)), cond_false]
theorem mput_new {l : List Cluster} {c : Cluster} (h : ∀ d ∈ l, d.name ≠ c.name) : mput (l.map fun c => (c.name, c)) c.name c = (l ++ [c]).map fun c => (c.name, c) := by
  induction l with
  | nil => rfl
  | cons e r ih =>
    have he : e.name ≠ c.name := h e (by simp)
    simp only [List.map_cons, List.cons_append, mput, if_neg he, ih fun d hd => h d (by simp [hd])]
theorem clusters_eq {h : Home} (hn : ∀ (k j : Nat) (c d : Cluster), h.clusters[k]? = some c → h.clusters[j]? = some d → j < k → d.name ≠ c.name) : clustersM h = h.clusters.map fun c => (c.name, c) := by
  have key : ∀ (m k : Nat), k + m = h.clusters.length → iterN (clustersM_B1 h) k m ((h.clusters.take k).map fun c => (c.name, c)) = h.clusters.map fun c => (c.name, c) := by
    intro m
    induction m with
    | zero => intro k hk; rw [iterN, List.take_of_length_le (by omega)]
    | succ m ih =>
      intro k hk
      have hl : k < h.clusters.length := by omega
      rw [iterN, ← ih (k + 1) (by omega)]
      congr 1
      unfold clustersM_B1
      rw [List.getElem?_eq_getElem hl]
      simp only
      rw [mput_new, List.take_succ_eq_append_getElem hl]
      intro d hd
      obtain ⟨i, hi, hid⟩ := mem_take_iff.1 hd
      exact hn k i _ d (List.getElem?_eq_getElem hl) hid hi
  unfold clustersM clustersM_L1
  exact key h.clusters.length 0 (by omega)
theorem caps_eq {h : Home} (hn : ∀ (k j : Nat) (c d : Cluster), h.clusters[k]? = some c → h.clusters[j]? = some d → j < k → d.name ≠ c.name) (d : Dev) : capsM d (clustersM h) = partsM h d := by
  unfold capsM partsM capsM_L1 partsM_L1
  rw [clusters_eq hn, loopS_congr (c := partsM_B1 h d) fun k a => ?_]
  unfold capsM_B1 partsM_B1
  cases d.clusters[k]? with
  | none => rfl
  | some e =>
    simp only [nIndex_eq]
    rcases rclus_rel h e with ⟨h1, h2⟩ | ⟨j, c, h1, h2, h3⟩
    · rw [h1, h2]
      rfl
    · rw [h1, h3]
      have e1 : decide ((j : Int) < 0) = false := decide_eq_false (by omega)
      simp only [e1, Option.isSome_some, cond_true, cond_false, Int.toNat_natCast, h2, Option.getD_some]
theorem numbers_eq (d : Dev) : numbersM d = !((decide (d.id < 1) || (decide (d.id > 250) || (decide (d.vendor < 0) || (decide (d.vendor > 255) || (!d.sleepy && (d.poll != 0)))))) || (d.sleepy && (decide (d.poll < 4) || decide (d.poll > 3600)))) := by
  unfold numbersM
  rw [Bool.eq_iff_iff]
  cases d.sleepy <;> simp only [cond_eq_ite] <;> split <;> simp_all <;> omega
/-- The EUIs of the devices before the k-th are in the map. -/
def Euis (h : Home) (k : Nat) (a : List (Int × Bool)) : Prop := ∀ x, ((mget a x).isSome && ((mget a x).getD default)) = decide (∃ j, j < k ∧ ∃ d, h.devices[j]? = some d ∧ d.eui = x)
theorem mget_put {K V : Type} [DecidableEq K] (l : List (K × V)) (k x : K) (v : V) : mget (mput l k v) x = if k = x then some v else mget l x := by
  induction l with
  | nil => simp [mput, mget]
  | cons p r ih =>
    obtain ⟨q, w⟩ := p
    by_cases hq : q = k
    · subst hq
      by_cases hx : q = x <;> simp [mput, mget, hx]
    · by_cases hx : q = x
      · subst hx
        simp [mput, mget, hq, Ne.symm hq]
      · simp only [mput, if_neg hq, mget, if_neg hx, ih]
theorem dev_eq (h : Home) : devCheckM h = rdevCheckM h := by
  unfold devCheckM rdevCheckM
  rw [all_eq]
  cases ha : (rallM h.clusters != 0) with
  | true => rfl
  | false =>
    simp only [cond_false]
    cases hl : decide (((h.devices.length : Nat) : Int) > 20) with
    | true => rfl
    | false =>
      simp only [cond_false]
      have hl := of_decide_eq_false hl
      have hn := all_names (l := h.clusters) (by rw [all_eq]; simpa using ha)
      have key := loopS_scan (b := devCheckM_B1 h) (c := rdevCheckM_B1 h) (n := h.devices.length) (Euis h) (fun k a hk hI => ?_) h.devices.length 0 [] (by omega) (fun x => by simp [mget])
      · unfold devCheckM_L1 rdevCheckM_L1
        rcases key with ⟨r, h1, h2⟩ | ⟨a', h1, h2⟩ <;> rw [h1, h2] <;> rfl
      · have he : h.devices[k]? = some h.devices[k] := List.getElem?_eq_getElem hk
        generalize h.devices[k] = e at he
        have hone : rdevCheckM_B1 h k = bif (oneDevM h k != 0) then some (oneDevM h k) else none := rfl
        have step : ∀ a', a' = mput a e.eui true → Euis h (k + 1) a' := by
          rintro _ rfl x
          rw [mget_put]
          by_cases hx : e.eui = x
          · subst hx
            simp only [if_true, Option.isSome_some, Option.getD_some, Bool.and_self]
            exact (decide_eq_true ⟨k, by omega, e, he, rfl⟩).symm
          · simp only [if_neg hx]
            rw [hI x]
            refine decide_eq_decide.2 ⟨fun ⟨j, hj, d, h1, h2⟩ => ⟨j, by omega, d, h1, h2⟩, fun ⟨j, hj, d, h1, h2⟩ => ?_⟩
            rcases Nat.lt_or_ge j k with h | h
            · exact ⟨j, h, d, h1, h2⟩
            · have : j = k := by omega
              subst this
              rw [he] at h1
              cases h1
              exact absurd h2 hx
        have hd1 : decide (∃ j, j < k ∧ ∃ d, h.devices[j]? = some d ∧ d.eui = e.eui) = true → oneDevM_L1 h k e = some 9 := by
          intro hx
          have hx := of_decide_eq_true hx
          unfold oneDevM_L1
          cases hs : scanN (oneDevM_B1 h k e) 0 k with
          | none =>
            obtain ⟨j, hj, d, h1, h2⟩ := hx
            have := scan_at hs hj
            unfold oneDevM_B1 at this
            rw [h1] at this
            simp [h2] at this
          | some r =>
            obtain ⟨j, _, _, hj, _⟩ := scanN_get hs
            unfold oneDevM_B1 at hj
            simp only [cond_eq_ite] at hj
            repeat' split at hj
            all_goals (cases hj <;> rfl)
        have hd2 : decide (∃ j, j < k ∧ ∃ d, h.devices[j]? = some d ∧ d.eui = e.eui) = false → oneDevM_L1 h k e = none := by
          intro hx
          have hx := of_decide_eq_false hx
          refine scan_none fun j hj => ?_
          unfold oneDevM_B1
          cases h1 : h.devices[j]? with
          | none => rfl
          | some d =>
            have : (d.eui == e.eui) = false := by
              cases hb : (d.eui == e.eui) with
              | false => rfl
              | true => exact absurd ⟨j, hj, d, h1, by simpa using hb⟩ hx
            simp only [this, cond_false]
        have hE := hI e.eui
        unfold devCheckM_B1
        rw [hone]
        unfold oneDevM
        simp only [he, numbers_eq, Bool.not_not, hE, valid_eq, caps_eq hn]
        generalize hA : ((decide (e.id < 1) || (decide (e.id > 250) || (decide (e.vendor < 0) || (decide (e.vendor > 255) || (!e.sleepy && (e.poll != 0)))))) || (e.sleepy && (decide (e.poll < 4) || decide (e.poll > 3600)))) = A
        have rest : (∃ r, (bif decide (∃ j, j < k ∧ ∃ d, h.devices[j]? = some d ∧ d.eui = e.eui) then Step.ret 9 else bif !rvalidM e.room then .ret 10 else bif partsM h e != 0 then .ret (partsM h e) else .nxt (mput a e.eui true)) = (.ret r : Step Int (List (Int × Bool))) ∧
            (bif ((oneDevM_L1 h k e).getD (bif !(rvalidM e.room) then 10 else partsM h e)) != 0 then some ((oneDevM_L1 h k e).getD (bif !(rvalidM e.room) then 10 else partsM h e)) else none) = some r) ∨
            (∃ a', (bif decide (∃ j, j < k ∧ ∃ d, h.devices[j]? = some d ∧ d.eui = e.eui) then Step.ret 9 else bif !rvalidM e.room then .ret 10 else bif partsM h e != 0 then .ret (partsM h e) else .nxt (mput a e.eui true)) = (.nxt a' : Step Int (List (Int × Bool))) ∧
            (bif ((oneDevM_L1 h k e).getD (bif !(rvalidM e.room) then 10 else partsM h e)) != 0 then some ((oneDevM_L1 h k e).getD (bif !(rvalidM e.room) then 10 else partsM h e)) else none) = none ∧ Euis h (k + 1) a') := by
          cases hD : decide (∃ j, j < k ∧ ∃ d, h.devices[j]? = some d ∧ d.eui = e.eui) with
          | true =>
            rw [hd1 hD]
            exact .inl ⟨9, rfl, rfl⟩
          | false =>
            rw [hd2 hD]
            cases rvalidM e.room with
            | false => exact .inl ⟨10, rfl, rfl⟩
            | true =>
              simp only [cond_false, Bool.not_true, Option.getD_none]
              cases hp : (partsM h e != 0) with
              | true => exact .inl ⟨_, rfl, rfl⟩
              | false => exact .inr ⟨_, rfl, rfl, step _ rfl⟩
        cases A with
        | true => exact .inl ⟨2, rfl, rfl⟩
        | false =>
          simp only [cond_false]
          cases hk0 : decide (((k : Nat) : Int) > 0) with
          | false =>
            simp only [cond_false]
            exact rest
          | true =>
            simp only [cond_true]
            have hk0 := of_decide_eq_true hk0
            have hw : (IntKind.i64.wrap ((k : Int) - 1)).toNat = k - 1 := by rw [wrap64_of _ (by omega) (by omega)]; omega
            have hkl : k - 1 < h.devices.length := by omega
            rw [hw, List.getElem?_eq_getElem hkl]
            simp only
            cases hO : decide (e.id ≤ h.devices[k - 1].id) with
            | true =>
              exact .inl ⟨14, rfl, rfl⟩
            | false =>
              simp only [cond_false]
              exact rest
end Go.Proofs.Ytmjimhkbehoomaa
