/- Vendor: what is encoded is decoded; each group of bytes is decoded by itself. Conditions: none. -/
import Derived.Test.YtmjimhkbehoomaaVQl
namespace Go.Proofs.Ytmjimhkbehoomaa
open Go Go.Av Go.Hh Go.Proofs
theorem dec3_err {c : Codec} {h : Home} {n : Int} {x y z : UInt8} {e : Int} (hd : dec3 c h n x y z = .inl e) : e ≠ 0 := by
  unfold dec3 at hd
  repeat' split at hd
  all_goals first
    | (cases hd; decide)
    | (cases hd; done)
theorem dec3_spec {c : Codec} {h : Home} {n : Int} {x y z : UInt8} {it : ItemV} (hd : dec3 c h n x y z = .inr it) : it.key.dev = n ∧ (findM h it.key).2 = true ∧ fitsM (findM h it.key).1 it.value = 0 ∧ it.version = 0 := by
  unfold dec3 at hd
  split at hd
  · cases hd
  · split at hd
    · cases hd
    · split at hd
      · cases hd
      · rename_i hk
        split at hd
        · cases hd
        · rename_i hf
          simp only [Sum.inr.injEq] at hd
          subst hd
          exact ⟨rfl, by simpa using hk, by simpa using hf, rfl⟩
theorem decL_err {c : Codec} {h : Home} {n : Int} : ∀ {L : List UInt8} {out : List ItemV} {e : List ItemV × Int}, decL c h n L out = .inl e → e.2 ≠ 0
  | [], out, o, hd => by simp [decL] at hd
  | [_], out, o, hd => by simp [decL] at hd
  | [_, _], out, o, hd => by simp [decL] at hd
  | x :: y :: z :: L, out, o, hd => by
    unfold decL at hd
    split at hd
    · rename_i e he
      cases hd
      exact dec3_err he
    · exact decL_err hd
/-- Each group of three bytes. -/
theorem decL_at {c : Codec} {h : Home} {n : Int} : ∀ {L : List UInt8} {out o : List ItemV}, decL c h n L out = .inr o → L.length % 3 = 0 → 3 * o.length = 3 * out.length + L.length ∧ (∀ k, k < out.length → o[k]? = out[k]?) ∧
    ∀ k, 3 * k < L.length → ∃ x y z r it, L.drop (3 * k) = x :: y :: z :: r ∧ dec3 c h n x y z = .inr it ∧ o[out.length + k]? = some it
  | [], out, o, hd, _ => by
    simp only [decL, Sum.inr.injEq] at hd
    subst hd
    exact ⟨rfl, fun _ _ => rfl, fun k hk => by simp at hk⟩
  | [_], _, _, _, h3 => by simp at h3
  | [_, _], _, _, _, h3 => by simp at h3
  | x :: y :: z :: L, out, o, hd, h3 => by
    unfold decL at hd
    split at hd
    · cases hd
    · rename_i it hit
      simp only [List.length_cons] at h3
      obtain ⟨i1, i2, i3⟩ := decL_at hd (by omega)
      simp only [List.length_append, List.length_cons, List.length_nil] at i1 i2 i3
      refine ⟨by simp only [List.length_cons]; omega, fun k hk => ?_, fun k hk => ?_⟩
      · rw [i2 k (by omega), List.getElem?_append_left hk]
      · cases k with
        | zero =>
          refine ⟨x, y, z, L, it, rfl, hit, ?_⟩
          rw [Nat.add_zero, i2 out.length (by omega), List.getElem?_append_right (Nat.le_refl _), Nat.sub_self]
          rfl
        | succ k =>
          simp only [List.length_cons] at hk
          obtain ⟨x', y', z', r, it', g1, g2, g3⟩ := i3 k (by omega)
          refine ⟨x', y', z', r, it', ?_, g2, ?_⟩
          · rw [show 3 * (k + 1) = 3 * k + 3 from by omega, ← g1]
            rfl
          · rw [show out.length + (k + 1) = out.length + (0 + 1) + k from by omega]
            exact g3
/-- A byte out of a number. -/
def u8 (n : Int) : UInt8 := UInt8.ofNat n.toNat
theorem u8_toNat {n : Int} (h1 : 0 ≤ n) (h2 : n < 256) : ((u8 n).toNat : Int) = n := by
  unfold u8
  rw [UInt8.toNat_ofNat']
  omega
theorem foldPush_list : ∀ (l : List Int) (s : ByteArray), (l.foldl (fun r n => r.push (UInt8.ofNat n.toNat)) s).data.toList = s.data.toList ++ l.map u8
  | [], s => by simp
  | n :: l, s => by
    rw [List.foldl_cons, foldPush_list l]
    simp [ByteArray.push, u8]
theorem bytesOf_list (l : List Int) : (bytesOf l).data.toList = l.map u8 := by
  unfold bytesOf
  rw [foldPush_list]
  rfl
def strip (e : ItemV) : ItemV := ⟨e.key, e.value, 0⟩
theorem nearest_in {lo hi : Int} (h : lo ≤ hi) : lo ≤ nearest lo hi ∧ nearest lo hi ≤ hi := by
  unfold nearest
  split <;> split at * <;> omega
theorem val_eta {v : Val} {k n : Int} (h1 : v.kind = k) (h2 : v.n = n) (h3 : v.s = ⟨#[]⟩) : (⟨k, n, ⟨#[]⟩⟩ : Val) = v := by
  obtain ⟨a, b, c⟩ := v
  simp only at h1 h2 h3
  subst h1 h2 h3
  rfl
/-- The number that Encode writes is read as the value. -/
theorem number_back {f : FieldV} {a : Attr} {v : Val} (hfit : fitsM a v = 0) (hk4 : a.kind ≠ 4) (hm : formM f a = true) (hr : 0 ≤ f.scale ∧ f.scale ≤ 1000 ∧ -100000 ≤ f.offset ∧ f.offset ≤ 100000) (hok : (numberM f v).2 = true) :
    rvalueM f a (((numberM f v).1.fdiv 256 % 256) * 256 + (numberM f v).1 % 256) = v := by
  obtain ⟨s1, s2, s3, s4, s5⟩ := fits_spec hfit
  obtain ⟨v1, v2, v3, v4⟩ := vcheck_spec s2
  obtain ⟨f1, f2, f3⟩ := form_spec hm
  have hdk := def_kind s1
  rw [Int.fdiv_eq_ediv_of_nonneg _ (by omega)]
  by_cases k1 : a.kind = 1
  · have hn : numberM f v = (v.n, true) := by
      unfold numberM
      rw [show (v.kind == 1) = true by simp; omega]
      rfl
    have hv := v1 (by omega)
    rw [hn]
    dsimp only
    rw [value_bool k1 (by omega) (by omega)]
    refine val_eta (by omega) ?_ (v4 (by omega))
    split <;> omega
  · by_cases k3 : a.kind = 3
    · have hv := v3 (by omega)
      have hs5 := s5 (by omega)
      obtain ⟨m1, m2⟩ := mapped_spec (f2 k3).2.2
      have hlt : v.n.toNat < f.map.length := by omega
      have hg : f.map[v.n.toNat]? = some f.map[v.n.toNat] := List.getElem?_eq_getElem hlt
      generalize f.map[v.n.toNat] = y at hg
      obtain ⟨y1, y2, y3⟩ := m2 _ _ hg
      have hn : numberM f v = (y, true) := by
        unfold numberM
        rw [show (v.kind == 1) = false by simp; omega, show (v.kind == 3) = true by simp; omega, hg]
        rfl
      rw [hn]
      dsimp only
      rw [show y / 256 % 256 * 256 + y % 256 = y by omega, value_enum k3, ← index_eq, y3]
      exact val_eta (by omega) (by omega) (v4 (by omega))
    · have k2 : a.kind = 2 := by omega
      have hsc := (f1 k2).1
      have hv := v2 (by omega)
      obtain ⟨lo, hi, g1, g2, _⟩ := number_int (f := f) (a := a) (v := v) k2 (by omega) (v4 (by omega)) (by omega) (by omega) (by omega) (by omega) hv.1 hv.2
      rw [g1] at hok ⊢
      dsimp only at hok ⊢
      have hok := of_decide_eq_true hok
      have hin := nearest_in hok.1
      generalize nearest lo hi = X at *
      rw [value_int k2 (by omega) (by omega) (by omega) (by omega) (by omega) (by omega)]
      refine val_eta (by omega) ?_ (v4 (by omega))
      rw [← (g2 X).1 hin]
      have : sgn (X / 256 % 256 * 256 + X % 256) = X := by
        unfold sgn
        split <;> omega
      rw [this]
/-- An item's bytes are decoded to it. -/
theorem chunk_back {c : Codec} {h : Home} {l : List ItemV} {k : Nat} {x : ItemV} {a a' : List Int} (h0 : venCheckM c h = 0) (hx : l[k]? = some x) (hb : encodeM_B1 c h l k a = .nxt a') :
    ∃ p q r : Int, a' = a ++ [p, q, r] ∧ dec3 c h x.key.dev (u8 p) (u8 q) (u8 r) = .inr (strip x) ∧ ownsM h x.key.dev c.vendor = true := by
  unfold encodeM_B1 at hb
  simp only [hx] at hb
  cases hq : (!(findM h x.key).2 || !(ownsM h x.key.dev c.vendor)) with
  | true => rw [hq] at hb; cases hb
  | false =>
    rw [hq] at hb
    simp only [cond_false] at hb
    cases hi : decide (ixEncM c.fields x < 0) with
    | true => rw [hi] at hb; cases hb
    | false =>
      rw [hi] at hb
      simp only [cond_false] at hb
      cases hf : (fitsM (findM h x.key).1 x.value != 0) with
      | true => rw [hf] at hb; cases hb
      | false =>
        rw [hf] at hb
        simp only [cond_false] at hb
        have hft := bz hf
        have hi := of_decide_eq_false hi
        obtain ⟨f, e1, e2, e3, e4, e5, e6⟩ := enc_item h0 (or_not hq).1 hft (by omega)
        rw [e1] at hb
        simp only at hb
        cases hok : (numberM f x.value).2 with
        | false => rw [hok] at hb; cases hb
        | true =>
          rw [hok] at hb
          simp only [Bool.not_true, cond_false, Step.nxt.injEq] at hb
          refine ⟨_, _, _, hb.symm, ?_, (or_not hq).2⟩
          have hcode : codeM c.fields f.code = ixEncM c.fields x := by
            obtain ⟨_, _, hp3⟩ := venCheck_parts h0
            have huniq := (field_spec (hp3 _ (getElem_lt e1)) e1).2.1
            rw [code_first]
            rcases firstI_cases c.fields (fun e => e.code == f.code) with ⟨g1, g2⟩ | ⟨j, d, g1, g2, g3, g4⟩
            · have := g2 _ _ e1
              simp at this
            · rw [g1]
              rcases Nat.lt_trichotomy j (ixEncM c.fields x).toNat with h | h | h
              · exact absurd (by simpa using g3) (huniq j d h g2)
              · omega
              · have := g4 _ _ h e1
                simp at this
          have hback := number_back (f := f) hft e5 e4 (by omega) hok
          rw [wrap_u8, wrap_u8, wrap_u8]
          have t1 := u8_toNat (n := f.code % 256) (by omega) (by omega)
          have t2 := u8_toNat (n := (numberM f x.value).1.fdiv 256 % 256) (by omega) (by omega)
          have t3 := u8_toNat (n := (numberM f x.value).1 % 256) (by omega) (by omega)
          have hkey : (⟨x.key.dev, f.cluster, f.attr⟩ : KeyV) = x.key := by rw [e2, e3]
          unfold dec3
          rw [t1, Int.emod_eq_of_lt e6.1 (by omega), hcode, e1]
          dsimp only
          rw [if_neg (by omega), hkey, if_neg (by rw [(or_not hq).1]; decide)]
          have e7 : (((u8 ((numberM f x.value).1.fdiv 256 % 256)).toNat * 256 + (u8 ((numberM f x.value).1 % 256)).toNat : Nat) : Int) = (numberM f x.value).1.fdiv 256 % 256 * 256 + (numberM f x.value).1 % 256 := by
            rw [← t2, ← t3]
            simp only [t2, t3]
            omega
          rw [e7, hback, if_neg (by simpa using hft)]
          rfl
theorem enc_nobrk {c : Codec} {h : Home} {l : List ItemV} : ∀ (k : Nat) (a a' : List Int), encodeM_B1 c h l k a ≠ .brk a' := fun k a a' hb => by
  unfold encodeM_B1 at hb
  simp only [cond_eq_ite] at hb
  repeat' split at hb
  all_goals cases hb
/-- The bytes of items of one device are decoded to them. -/
theorem enc_back {c : Codec} {h : Home} {l : List ItemV} {D : Int} (h0 : venCheckM c h = 0) (hD : ∀ (k : Nat) (e : ItemV), l[k]? = some e → e.key.dev = D) : ∀ (m k : Nat) (a a' : List Int), k + m = l.length → loopS (encodeM_B1 c h l) k m a = .inr a' →
    ∃ t : List Int, a' = a ++ t ∧ t.length = 3 * m ∧ (∀ out, decL c h D (t.map u8) out = .inr (out ++ (l.drop k).map strip)) ∧ (0 < m → ownsM h D c.vendor = true)
  | 0, k, a, a', hk, hl => by
    simp only [loopS, Sum.inr.injEq] at hl
    subst hl
    refine ⟨[], by simp, rfl, fun out => ?_, fun h => absurd h (Nat.lt_irrefl 0)⟩
    rw [List.drop_of_length_le (by omega)]
    simp [decL]
  | m + 1, k, a, a', hk, hl => by
    have hx : l[k]? = some l[k] := List.getElem?_eq_getElem (by omega)
    generalize hxe : l[k] = x at hx
    unfold loopS at hl
    split at hl
    · cases hl
    · rename_i hb
      exact absurd hb (enc_nobrk _ _ _)
    · rename_i a2 hb
      obtain ⟨p, q, r, g1, g2, g3⟩ := chunk_back h0 hx hb
      subst g1
      obtain ⟨t, i1, i2, i3, _⟩ := enc_back h0 hD m (k + 1) _ a' (by omega) hl
      rw [hD k x hx] at g2 g3
      refine ⟨p :: q :: r :: t, by rw [i1]; simp, by simp only [List.length_cons]; omega, fun out => ?_, fun _ => g3⟩
      simp only [List.map_cons]
      unfold decL
      rw [g2]
      dsimp only
      rw [i3]
      have : l.drop k = x :: l.drop (k + 1) := by
        rw [← hxe]
        exact List.drop_eq_getElem_cons (by omega)
      rw [this]
      simp
theorem encode_err {c : Codec} {h : Home} {l : List ItemV} (he : (encodeM c h l).2 ≠ 0) : (encodeM c h l).1 = ⟨#[]⟩ := by
  unfold encodeM at he ⊢
  simp only [cond_eq_ite] at he ⊢
  split at he
  · rename_i hq
    rw [if_pos hq]
  · rename_i hq
    rw [if_neg hq]
    split at he
    · rename_i r hr
      obtain ⟨j, a, hj⟩ := loopS_inl hr
      unfold encodeM_B1 at hj
      simp only [cond_eq_ite] at hj
      repeat' split at hj
      all_goals first
        | (cases hj; done)
        | (cases hj; rfl)
    · exact absurd rfl he
theorem encode_ok {c : Codec} {h : Home} {l : List ItemV} {D : Int} (hD : ∀ (k : Nat) (e : ItemV), l[k]? = some e → e.key.dev = D) (hn : 0 < l.length) (hl : l.length ≤ 300) (he : (encodeM c h l).2 = 0) : (encodeM c h l).1.size = 3 * l.length ∧ decodeM c h D (encodeM c h l).1 = (l.map strip, 0) := by
  have key : venCheckM c h = 0 ∧ ∃ t, (encodeM c h l).1 = bytesOf t ∧ t.length = 3 * l.length ∧ (∀ out, decL c h D (t.map u8) out = .inr (out ++ l.map strip)) ∧ ownsM h D c.vendor = true := by
    unfold encodeM at he ⊢
    cases hq : (venCheckM c h != 0) with
    | true =>
      rw [hq] at he
      simp only [cond_true] at he
      rw [he] at hq
      cases hq
    | false =>
      rw [hq] at he
      simp only [cond_false] at he ⊢
      have h0 := bz hq
      refine ⟨h0, ?_⟩
      cases hr : encodeM_L1 c h l [] with
      | inl r =>
        rw [hr] at he
        dsimp only at he
        obtain ⟨j, a, hj⟩ := loopS_inl hr
        unfold encodeM_B1 at hj
        simp only [cond_eq_ite] at hj
        repeat' split at hj
        all_goals first
          | (cases hj; done)
          | (cases hj; cases he)
      | inr a =>
        obtain ⟨t, i1, i2, i3, i4⟩ := enc_back h0 hD l.length 0 [] a (by omega) hr
        rw [List.nil_append] at i1
        subst i1
        exact ⟨a, rfl, i2, fun out => by simpa using i3 out, i4 hn⟩
  obtain ⟨h0, t, e1, e2, e3, e4⟩ := key
  rw [e1]
  have hs : (bytesOf t).size = 3 * l.length := by
    rw [← bytes_len, bytesOf_list, List.length_map, e2]
  refine ⟨hs, ?_⟩
  rw [decode_is (by omega), if_neg (by simpa using h0), if_neg (by rw [e4]; decide), if_neg (by omega), bytesOf_list, e3 []]
  rfl
end Go.Proofs.Ytmjimhkbehoomaa
