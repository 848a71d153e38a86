/- The AV calculus, part T: loops with carried state; own rows as lists. Conditions: none. -/
import Derived.Test.YtjgpnceaicijcaaPMs
namespace Go.Av
open Go

/-- The carried state after the indexes k, k + 1, .. (m of them). -/
def iterN {A : Type} (b : Nat → A → A) : Nat → Nat → A → A
  | _, 0, a => a
  | k, m + 1, a => iterN b (k + 1) m (b k a)
theorem iterN_next {A : Type} {b : Nat → A → A} {k n : Nat} {a a' L : A} (h : L = iterN b k (n - k) a) (hk : k < n) (hb : b k a = a') : L = iterN b (k + 1) (n - (k + 1)) a' := by
  rw [h, show n - k = (n - (k + 1)) + 1 from by omega, ← hb]
  rfl
theorem iterN_end {A : Type} {b : Nat → A → A} {k n : Nat} {a L : A} (h : L = iterN b k (n - k) a) (hk : n ≤ k) : a = L := by
  rw [h, show n - k = 0 from by omega]
  rfl

section
variable {P : Program} {G : Glob} {o : Oper} {s : St}
theorem R_indexAddrRow {α : Type} (C : α → List RV) (l : List α) (id n j : Nat) {bt t : TypeId} {x i : Operand} (ho : o.op = .indexAddr t x i) (ht : elemSize P t = some n) (hi : aval G s i = .rv (.v (.int .i64 (j : Int)))) (hx : aval G s x = .sl id)
    (hid : hget s.heap id = some (.row false bt n (l.map C))) (hj : j < l.length) : VStep P G o s (.eptr id j 0) :=
  R_indexAddr t x i ho ht hi (by rw [hx]; simp [aelem, hid, hj])
theorem R_lenRow {α : Type} (C : α → List RV) (l : List α) (id n : Nat) {bt : TypeId} {x : Operand} {t : TypeId} (ho : o.op = .call { callee := .builtin .len, args := #[x], argTypes := #[t] }) (ht : isSlice P t = true) (hx : aval G s x = .sl id)
    (hid : hget s.heap id = some (.row false bt n (l.map C))) : VStep P G o s (.rv (.v (.int .i64 (l.length : Int)))) :=
  R_len x t ho ht (by rw [hx]; simp [alen, hid])
/-- A part of an own row's element. -/
theorem R_loadRow {α : Type} (C : α → List RV) (l : List α) (id n j off k : Nat) {bt t : TypeId} {x : Operand} (ho : o.op = .load t x) (ht : aggSize P t = some k) (hx : aval G s x = .eptr id j off)
    (hid : hget s.heap id = some (.row false bt n (l.map C))) {e : α} (he : l[j]? = some e) (hk : Nat.ble k ((C e).drop off).length = true) (h0 : Nat.ble 1 k = true) {v : List AV} (hv : (((C e).drop off).map AV.rv).take k = v) : VStep P G o s (.agg v) := by
  subst hv
  exact R_load_agg t x ho ht (cs := ((C e).drop off).map AV.rv) (by rw [hx]; simp [acells, hid, he]) (by simpa using Nat.le_of_ble_eq_true hk) (Nat.le_of_ble_eq_true h0)
theorem R_loadRow1 {α : Type} (C : α → List RV) (l : List α) (id n j off : Nat) {bt t : TypeId} {x : Operand} (ho : o.op = .load t x) (ht : scalar P t = true) (hx : aval G s x = .eptr id j off)
    (hid : hget s.heap id = some (.row false bt n (l.map C))) {e : α} (he : l[j]? = some e) {v : RV} {vs : List RV} (hv : (C e).drop off = v :: vs) : VStep P G o s (.rv v) :=
  R_load t x ho ht (cs := vs.map AV.rv) (by rw [hx]; simp [acells, hid, he, hv])
theorem R_storeRow {α : Type} (C : α → List RV) (l : List α) (id n j off : Nat) {bt t : TypeId} {p x : Operand} (ho : o.op = .store t p x) (hp : aval G s p = .eptr id j off) (hid : hget s.heap id = some (.row false bt n (l.map C)))
    {e : α} (he : l[j]? = some e) (e' : α) {vs : List RV} (hv : rvs (vcells (aval G s x)) = some vs) (hsz : (P.info? t).map (·.size) = some vs.length) (hfit : Nat.ble (off + vs.length) n = true) (hs : splice (C e) off vs = C e') :
    OpStep P G o s ({ s with heap := hset s.heap id (.row false bt n ((l.set j e').map C)) }.put o.dst .top) := by
  have := R_store_row t p x ho hp hid (e := C e) (by simp [he]) hv hsz (Nat.le_of_ble_eq_true hfit)
  rw [hs, ← List.map_set] at this
  exact this
end
/-- A nil slice is an own row without elements. -/
theorem Le.nilRow {s s' : St} (k e n : Nat) (hk : s.slots[k]? = some (.rv (.v (.slice none 0 0)))) (hb : s.base ≤ s.next)
    (h : ({ s with slots := s.slots.set k (.sl s.next), heap := (s.next, .row false e n []) :: s.heap, next := s.next + 1 } : St) = s') : Le s s' := by
  subst h
  intro E G a w ⟨β, ro, hr⟩
  have hnone : hget s.heap s.next = none := by
    cases hg : hget s.heap s.next with
    | none => rfl
    | some p => have := hr.trans.new _ _ hg; omega
  have hval := ARel.val (hr.slot k _ hk)
  have hnew := hr.new (w' := w) s.next hnone hb (Nat.le_refl _) (.row false e n []) (.slice none 0 0) rfl rfl rfl (Nat.le_refl _) (fun _ _ => rfl) (fun c hc => by simp [blk] at hc) rfl
    (.row e n [] [] (by rw [upd_same]; exact ⟨by simp, .inl ⟨⟨none, rfl⟩, rfl⟩⟩) (by simp) (by simp))
  refine ⟨_, ro, hnew.defers, by simpa using hnew.size, fun i y hy => ?_, hnew.heap, hnew.glob, hnew.trans, hnew.base⟩
  rw [List.getElem?_set] at hy
  split at hy
  · rename_i e1
    subst e1
    split at hy
    · simp only [Option.some.injEq] at hy
      subst hy
      refine .sl _ _ (Nat.lt_succ_self _) fun z t' n' es' _ => ?_
      rw [hval]
      exact (upd_same _ _ _).symm
    · cases hy
  · exact hnew.slot i y hy
end Go.Av
