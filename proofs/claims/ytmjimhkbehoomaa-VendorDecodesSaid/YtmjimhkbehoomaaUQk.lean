/- Vendor: Decode goes three bytes by three, as the reference does. Conditions: none. -/
import Derived.Test.YtmjimhkbehoomaaUQj
namespace Go.Proofs.Ytmjimhkbehoomaa
open Go Go.Av Go.Hh Go.Proofs
/-- What bytes stand for, three by three. -/
def decL (c : Codec) (h : Home) (n : Int) : List UInt8 → List ItemV → (List ItemV × Int) ⊕ List ItemV
  | x :: y :: z :: r, out => match dec3 c h n x y z with
    | .inl e => .inl ([], e)
    | .inr it => decL c h n r (out ++ [it])
  | _, out => .inr out
def fin (x : (List ItemV × Int) ⊕ List ItemV) : List ItemV × Int :=
  match x with
  | .inl e => e
  | .inr o => (o, 0)
theorem ext_list (r : ByteArray) (i : Nat) : (r.extract i r.size).data.toList = r.data.toList.drop i := by
  rw [ByteArray.data_extract, Array.toList_extract]
  simp only [List.extract]
  exact List.take_of_length_le (by simp)
/-- The kind of what a field's attribute is. -/
theorem find_kind {c : Codec} {h : Home} {n : Int} {j : Nat} {f : FieldV} (h0 : venCheckM c h = 0) (hf : c.fields[j]? = some f) (hk : (findM h ⟨n, f.cluster, f.attr⟩).2 = true) :
    1 ≤ (findM h ⟨n, f.cluster, f.attr⟩).1.kind ∧ (findM h ⟨n, f.cluster, f.attr⟩).1.kind ≤ 3 ∧ defM (findM h ⟨n, f.cluster, f.attr⟩).1 = 0 ∧ formM f (findM h ⟨n, f.cluster, f.attr⟩).1 = true := by
  obtain ⟨hd, _, hp3⟩ := venCheck_parts h0
  obtain ⟨_, _, hv, hk4, hm⟩ := field_spec (hp3 _ (getElem_lt hf)) hf
  obtain ⟨_, _, _, _, _, hfv, _⟩ := find_vattr hk
  have e := hfv f rfl rfl
  have hd := vattr_def hd hv
  rw [e] at hk4 hm hd
  have := def_kind hd
  exact ⟨by omega, by omega, hd, hm⟩
theorem code_at {c : Codec} {x : Int} (h : 0 ≤ codeM c.fields x) : ∃ f, c.fields[(codeM c.fields x).toNat]? = some f ∧ f.code = x := by
  obtain ⟨f, h1, h2⟩ := firstI_at (l := c.fields) (p := fun e => e.code == x) (code_first c.fields x ▸ h)
  exact ⟨f, code_first c.fields x ▸ h1, by simpa using h2⟩
theorem ixDec_code (l : List FieldV) (r : ByteArray) (x : UInt8) (hx : r.data.toList[0]? = some x) : ixDecM l r = codeM l ((x.toNat : Nat) : Int) := by
  rw [ixDec_first, code_first]
  refine firstI_congr fun j e _ => ?_
  unfold dec1M
  rw [hx]
  dsimp only
  rw [wrap64_of _ (by omega) (by have := x.toNat_lt; omega)]
theorem dec_step {c : Codec} {h : Home} (n : Int) (s : ByteArray) (h0 : venCheckM c h = 0) {r : ByteArray} {x y z : UInt8} {L : List UInt8} (hr : r.data.toList = x :: y :: z :: L) (out : List ItemV) :
    decodeM_B1 c h n s (out, r) = match dec3 c h n x y z with
      | .inl e => .ret ([], e)
      | .inr it => .nxt (out ++ [it], r.extract 3 r.size) := by
  have hlen := bytes_len r
  rw [hr] at hlen
  simp only [List.length_cons] at hlen
  unfold decodeM_B1 dec3
  dsimp only
  rw [decide_eq_true (show ((r.size : Nat) : Int) > 0 by omega), ixDec_code c.fields r x (by rw [hr]; rfl)]
  simp only [cond_true]
  by_cases hi : codeM c.fields ((x.toNat : Nat) : Int) < 0
  · rw [decide_eq_true hi]
    simp only [cond_true]
    cases c.fields[(codeM c.fields ((x.toNat : Nat) : Int)).toNat]? with
    | none => rfl
    | some f => dsimp only; rw [if_pos hi]
  · rw [decide_eq_false hi]
    simp only [cond_false]
    obtain ⟨f, hf, _⟩ := code_at (c := c) (x := ((x.toNat : Nat) : Int)) (by omega)
    rw [hf]
    dsimp only
    rw [if_neg hi]
    cases hk : (findM h ⟨n, f.cluster, f.attr⟩).2 with
    | false => rfl
    | true =>
      simp only [Bool.not_true, cond_false]
      have hy : r.data.toList[1]? = some y := by rw [hr]; rfl
      have hz : r.data.toList[2]? = some z := by rw [hr]; rfl
      rw [hy, hz]
      dsimp only
      rw [or_bytes y.toNat_lt z.toNat_lt]
      obtain ⟨k1, k2, _, _⟩ := find_kind h0 hf hk
      have hy := y.toNat_lt
      have hz := z.toNat_lt
      obtain ⟨r1, r2⟩ := read_eq (f := f) (n := ((y.toNat * 256 + z.toNat : Nat) : Int)) k1 k2 (by omega) (by omega)
      rw [if_neg (by simp)]
      by_cases hft : fitsM (findM h ⟨n, f.cluster, f.attr⟩).1 (rvalueM f (findM h ⟨n, f.cluster, f.attr⟩).1 ((y.toNat * 256 + z.toNat : Nat) : Int)) = 0
      · have e : (readM f (findM h ⟨n, f.cluster, f.attr⟩).1 ((y.toNat * 256 + z.toNat : Nat) : Int)).2 = true := by rw [r1, hft]; rfl
        rw [e, r2 e, if_neg (by simpa using hft)]
        rfl
      · have e : (readM f (findM h ⟨n, f.cluster, f.attr⟩).1 ((y.toNat * 256 + z.toNat : Nat) : Int)).2 = false := by rw [r1]; simpa using hft
        rw [e, if_pos hft]
        rfl
theorem dec_loop {c : Codec} {h : Home} (n : Int) (s : ByteArray) (h0 : venCheckM c h = 0) : ∀ (fuel : Nat) (L : List UInt8) (r : ByteArray) (out : List ItemV), r.data.toList = L → L.length % 3 = 0 → L.length < fuel →
    (match loopW (decodeM_B1 c h n s) fuel (out, r) with | .inl e => e | .inr (o, _) => (o, 0)) = fin (decL c h n L out)
  | 0, _, _, _, _, _, hf => absurd hf (Nat.not_lt_zero _)
  | fuel + 1, [], r, out, hr, _, _ => by
    have hlen := bytes_len r
    rw [hr] at hlen
    have hb : decodeM_B1 c h n s (out, r) = .brk (out, r) := by
      unfold decodeM_B1
      dsimp only
      rw [decide_eq_false (show ¬ ((r.size : Nat) : Int) > 0 by rw [← hlen]; simp)]
      rfl
    unfold loopW
    rw [hb]
    rfl
  | fuel + 1, [_], _, _, _, h3, _ => by simp at h3
  | fuel + 1, [_, _], _, _, _, h3, _ => by simp at h3
  | fuel + 1, x :: y :: z :: L, r, out, hr, h3, hf => by
    unfold loopW decL
    rw [dec_step n s h0 hr out]
    cases dec3 c h n x y z with
    | inl e => rfl
    | inr it =>
      dsimp only
      simp only [List.length_cons] at h3 hf
      exact dec_loop n s h0 fuel L (r.extract 3 r.size) (out ++ [it]) (by rw [ext_list, hr]; rfl) (by omega) (by omega)
/-- What Decode computes. -/
theorem decode_is {c : Codec} {h : Home} {n : Int} {s : ByteArray} (hz : s.size ≤ 1000) : decodeM c h n s = if venCheckM c h ≠ 0 then ([], venCheckM c h) else if ownsM h n c.vendor = false then ([], 8) else if s.size % 3 ≠ 0 then ([], 5) else fin (decL c h n s.data.toList []) := by
  unfold decodeM
  by_cases h0 : venCheckM c h = 0
  · rw [if_neg (by simpa using h0), h0]
    simp only [bne_self_eq_false, cond_false]
    cases ownsM h n c.vendor with
    | false => rfl
    | true =>
      rw [if_neg (by simp)]
      simp only [Bool.not_true, cond_false]
      rw [Int.tmod_eq_emod_of_nonneg (by omega)]
      by_cases h3 : s.size % 3 = 0
      · have e : ((((s.size : Nat) : Int) % 3) != 0) = false := by simp; omega
        rw [e, if_neg (by simpa using h3)]
        exact dec_loop n s h0 1001 s.data.toList s [] rfl (by rw [bytes_len]; exact h3) (by rw [bytes_len]; omega)
      · have e : ((((s.size : Nat) : Int) % 3) != 0) = true := by simp; omega
        rw [e, if_pos h3]
        rfl
  · have e : (venCheckM c h != 0) = true := by simpa using h0
    rw [e, if_pos h0]
    rfl
theorem rdec_step {c : Codec} {h : Home} (n : Int) (s : ByteArray) (h0 : venCheckM c h = 0) (hz : s.size ≤ 1000) {i : Int} (hi0 : 0 ≤ i) {x y z : UInt8} {L : List UInt8} (hr : s.data.toList.drop i.toNat = x :: y :: z :: L) (out : List ItemV) :
    rdecodeM_B1 c h n s (i, out) = match dec3 c h n x y z with
      | .inl e => .ret ([], e)
      | .inr it => .nxt (i + 3, out ++ [it]) := by
  have hlen := bytes_len s
  have hl2 : s.size - i.toNat = L.length + 3 := by
    have := congrArg List.length hr
    simp only [List.length_drop, List.length_cons] at this
    omega
  have at_ : ∀ k : Nat, s.data.toList[(i + (k : Int)).toNat]? = (x :: y :: z :: L)[k]? := fun k => by
    rw [← hr, List.getElem?_drop]
    congr 1
    omega
  have e0 : s.data.toList[i.toNat]? = some x := by have := at_ 0; simpa using this
  have e1 : s.data.toList[(i + 1).toNat]? = some y := at_ 1
  have e2 : s.data.toList[(i + 2).toNat]? = some z := at_ 2
  unfold rdecodeM_B1 dec3
  dsimp only
  rw [decide_eq_true (show i < ((s.size : Nat) : Int) by omega), e0]
  simp only [cond_true]
  have hx := x.toNat_lt
  rw [wrap64_of ((x.toNat : Nat) : Int) (by omega) (by omega)]
  by_cases hi : codeM c.fields ((x.toNat : Nat) : Int) < 0
  · rw [decide_eq_true hi]
    simp only [cond_true]
    cases c.fields[(codeM c.fields ((x.toNat : Nat) : Int)).toNat]? with
    | none => rfl
    | some f => dsimp only; rw [if_pos hi]
  · rw [decide_eq_false hi]
    simp only [cond_false]
    obtain ⟨f, hf, _⟩ := code_at (c := c) (x := ((x.toNat : Nat) : Int)) (by omega)
    rw [hf]
    dsimp only
    rw [if_neg hi, ← find_eq]
    cases hk : (findM h ⟨n, f.cluster, f.attr⟩).2 with
    | false => rfl
    | true =>
      simp only [Bool.not_true, cond_false]
      rw [e1, e2]
      dsimp only
      rw [add_bytes y.toNat_lt z.toNat_lt, ← fits_eq, if_neg (by simp)]
      by_cases hft : fitsM (findM h ⟨n, f.cluster, f.attr⟩).1 (rvalueM f (findM h ⟨n, f.cluster, f.attr⟩).1 ((y.toNat * 256 + z.toNat : Nat) : Int)) = 0
      · rw [hft, if_neg (by simp), wrap64_of (i + 3) (by omega) (by omega)]
        rfl
      · rw [if_pos hft]
        have e : (fitsM (findM h ⟨n, f.cluster, f.attr⟩).1 (rvalueM f (findM h ⟨n, f.cluster, f.attr⟩).1 ((y.toNat * 256 + z.toNat : Nat) : Int)) != 0) = true := by simpa using hft
        rw [e]
        rfl
theorem rdec_loop {c : Codec} {h : Home} (n : Int) (s : ByteArray) (h0 : venCheckM c h = 0) (hz : s.size ≤ 1000) : ∀ (fuel : Nat) (L : List UInt8) (i : Int) (out : List ItemV), 0 ≤ i → s.data.toList.drop i.toNat = L → L.length % 3 = 0 → L.length < fuel →
    (match loopW (rdecodeM_B1 c h n s) fuel (i, out) with | .inl e => e | .inr (_, o) => (o, 0)) = fin (decL c h n L out)
  | 0, _, _, _, _, _, _, hf => absurd hf (Nat.not_lt_zero _)
  | fuel + 1, [], i, out, hi, hr, _, _ => by
    have hlen := bytes_len s
    have hl := congrArg List.length hr
    simp only [List.length_drop, List.length_nil] at hl
    have hb : rdecodeM_B1 c h n s (i, out) = .brk (i, out) := by
      unfold rdecodeM_B1
      dsimp only
      rw [decide_eq_false (show ¬ i < ((s.size : Nat) : Int) by omega)]
      rfl
    unfold loopW
    rw [hb]
    rfl
  | fuel + 1, [_], _, _, _, _, h3, _ => by simp at h3
  | fuel + 1, [_, _], _, _, _, _, h3, _ => by simp at h3
  | fuel + 1, x :: y :: z :: L, i, out, hi, hr, h3, hf => by
    unfold loopW decL
    rw [rdec_step n s h0 hz hi hr out]
    cases dec3 c h n x y z with
    | inl e => rfl
    | inr it =>
      dsimp only
      simp only [List.length_cons] at h3 hf
      refine rdec_loop n s h0 hz fuel L (i + 3) (out ++ [it]) (by omega) ?_ (by omega) (by omega)
      rw [show (i + 3).toNat = i.toNat + 3 from by omega, ← List.drop_drop, hr]
      rfl
theorem decode_eq {c : Codec} {h : Home} {n : Int} {s : ByteArray} (hz : s.size ≤ 1000) : decodeM c h n s = rdecodeM c h n s := by
  rw [decode_is hz]
  unfold rdecodeM
  rw [← venCheck_eq]
  by_cases h0 : venCheckM c h = 0
  · rw [if_neg (by simpa using h0), h0, owns_eq c h n (venCheck_parts h0).1]
    simp only [bne_self_eq_false, cond_false]
    cases oursM c h n with
    | false => rfl
    | true =>
      rw [if_neg (by simp)]
      simp only [Bool.not_true, cond_false]
      rw [Int.tmod_eq_emod_of_nonneg (by omega)]
      by_cases h3 : s.size % 3 = 0
      · have e : ((((s.size : Nat) : Int) % 3) != 0) = false := by simp; omega
        rw [e, if_neg (by simpa using h3)]
        exact (rdec_loop n s h0 hz 1001 s.data.toList 0 [] (by omega) rfl (by rw [bytes_len]; exact h3) (by rw [bytes_len]; omega)).symm
      · have e : ((((s.size : Nat) : Int) % 3) != 0) = true := by simp; omega
        rw [e, if_pos h3]
        rfl
  · have e : (venCheckM c h != 0) = true := by simpa using h0
    rw [e, if_pos h0]
    rfl
end Go.Proofs.Ytmjimhkbehoomaa
