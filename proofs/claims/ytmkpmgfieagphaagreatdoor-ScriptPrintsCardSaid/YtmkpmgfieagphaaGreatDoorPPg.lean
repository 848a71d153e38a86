/- Contracts by hand: strconv.Itoa and strings.Builder.String (of the shelf), homehubref01.Digits (by induction). Conditions: none. -/
import Derived.Shelf.Strconv.Itoa3
import Derived.Shelf.Strings.Builder1
import Derived.Test.YtmkpmgfieagphaaGreatDoorPTEf
import Derived.Test.YtmkpmgfieagphaaGreatDoorPPn
namespace Go.Proofs
open Go.Shelf
def Tryz.lays169_ren : Go.Shelf.Ren := ⟨fun | 169 => 60 | n => n, fun | 70 => 105 | 9 => 9 | 0 => 0 | 72 => 108 | 37 => 106 | 127 => 181 | 3 => 3 | 5 => 5 | n => n, fun | n => n⟩
theorem Tryz.lays169 : Go.Proofs.Lays.n169 Tryz.prog Tryz.lays169_ren := {
 mixed := by kernel_rfl
 f169 := Tryz.func60.trans (congrArg some (by kernel_rfl))
 t0 := Tryz.underlying0
 a0 := Tryz.isAgg0
 z0 := Tryz.sizeOf0
 v0 := Tryz.zeroValue0
 t3 := Tryz.underlying3
 a3 := Tryz.isAgg3
 z3 := Tryz.sizeOf3
 v3 := Tryz.zeroValue3
 t9 := Tryz.underlying9
 a9 := Tryz.isAgg9
 z9 := Tryz.sizeOf9
 v9 := Tryz.zeroValue9
 t37 := Tryz.underlying106
 a37 := Tryz.isAgg106
 z37 := Tryz.sizeOf106
 v37 := Tryz.zeroValue106
 t70 := Tryz.underlying105
 a70 := Tryz.isAgg105
 z70 := Tryz.sizeOf105
 v70 := Tryz.zeroValue105
 t72 := Tryz.underlying108
 a72 := Tryz.isAgg108
 z72 := Tryz.sizeOf108
 v72 := Tryz.zeroValue108
 t127 := Tryz.underlying181
 a127 := Tryz.isAgg181
 z127 := Tryz.sizeOf181
 v127 := Tryz.zeroValue181 }
def Tryz.laysItoa_ren : Go.Shelf.Ren := ⟨fun | 171 => 123 | 243 => 195 | 246 => 250 | 283 => 285 | 284 => 286 | 285 => 287 | 286 => 288 | 129 => 305 | 317 => 304 | 318 => 306 | 319 => 307 | 320 => 308 | 337 => 313 | 338 => 314 | n => n, fun | 3 => 3 | 9 => 9 | 2 => 2 | 4 => 4 | 171 => 309 | 0 => 0 | 53 => 63 | 37 => 106 | 5 => 5 | 173 => 312 | 212 => 328 | 51 => 314 | 20 => 20 | 213 => 329 | 46 => 174 | 232 => 333 | 233 => 334 | n => n, fun | 17 => 2 | 18 => 3 | 19 => 4 | n => n⟩
theorem Tryz.laysItoa : Go.Proofs.LaysM.n171 Tryz.prog Tryz.laysItoa_ren := {
 mixed := by kernel_rfl
 f129 := Tryz.func305.trans (congrArg some (by kernel_rfl))
 f171 := Tryz.func123.trans (congrArg some (by kernel_rfl))
 f243 := Tryz.func195.trans (congrArg some (by kernel_rfl))
 f246 := Tryz.func250.trans (congrArg some (by kernel_rfl))
 f283 := Tryz.func285.trans (congrArg some (by kernel_rfl))
 f284 := Tryz.func286.trans (congrArg some (by kernel_rfl))
 f285 := Tryz.func287.trans (congrArg some (by kernel_rfl))
 f286 := Tryz.func288.trans (congrArg some (by kernel_rfl))
 f317 := Tryz.func304.trans (congrArg some (by kernel_rfl))
 f318 := Tryz.func306.trans (congrArg some (by kernel_rfl))
 f319 := Tryz.func307.trans (congrArg some (by kernel_rfl))
 f320 := Tryz.func308.trans (congrArg some (by kernel_rfl))
 f337 := Tryz.func313.trans (congrArg some (by kernel_rfl))
 f338 := Tryz.func314.trans (congrArg some (by kernel_rfl))
 t0 := Tryz.underlying0
 a0 := Tryz.isAgg0
 z0 := Tryz.sizeOf0
 v0 := Tryz.zeroValue0
 t2 := Tryz.underlying2
 a2 := Tryz.isAgg2
 z2 := Tryz.sizeOf2
 v2 := Tryz.zeroValue2
 t3 := Tryz.underlying3
 a3 := Tryz.isAgg3
 z3 := Tryz.sizeOf3
 v3 := Tryz.zeroValue3
 t4 := Tryz.underlying4
 a4 := Tryz.isAgg4
 z4 := Tryz.sizeOf4
 v4 := Tryz.zeroValue4
 t5 := Tryz.underlying5
 a5 := Tryz.isAgg5
 z5 := Tryz.sizeOf5
 v5 := Tryz.zeroValue5
 t9 := Tryz.underlying9
 a9 := Tryz.isAgg9
 z9 := Tryz.sizeOf9
 v9 := Tryz.zeroValue9
 t20 := Tryz.underlying20
 a20 := Tryz.isAgg20
 z20 := Tryz.sizeOf20
 v20 := Tryz.zeroValue20
 t37 := Tryz.underlying106
 a37 := Tryz.isAgg106
 z37 := Tryz.sizeOf106
 v37 := Tryz.zeroValue106
 t46 := Tryz.underlying174
 a46 := Tryz.isAgg174
 z46 := Tryz.sizeOf174
 v46 := Tryz.zeroValue174
 t51 := Tryz.underlying314
 a51 := Tryz.isAgg314
 z51 := Tryz.sizeOf314
 v51 := Tryz.zeroValue314
 t53 := Tryz.underlying63
 a53 := Tryz.isAgg63
 z53 := Tryz.sizeOf63
 v53 := Tryz.zeroValue63
 t171 := Tryz.underlying309
 a171 := Tryz.isAgg309
 z171 := Tryz.sizeOf309
 v171 := Tryz.zeroValue309
 t173 := Tryz.underlying312
 a173 := Tryz.isAgg312
 z173 := Tryz.sizeOf312
 v173 := Tryz.zeroValue312
 t212 := Tryz.underlying328
 a212 := Tryz.isAgg328
 z212 := Tryz.sizeOf328
 v212 := Tryz.zeroValue328
 t213 := Tryz.underlying329
 a213 := Tryz.isAgg329
 z213 := Tryz.sizeOf329
 t232 := Tryz.underlying333
 a232 := Tryz.isAgg333
 z232 := Tryz.sizeOf333
 v232 := Tryz.zeroValue333
 t233 := Tryz.underlying334
 a233 := Tryz.isAgg334
 z233 := Tryz.sizeOf334
 v233 := Tryz.zeroValue334
 g17 := by kernel_rfl
 g18 := by kernel_rfl
 g19 := by kernel_rfl
 i0 := by kernel_rfl
 i2 := by kernel_rfl
 i3 := by kernel_rfl
 i4 := by kernel_rfl
 i5 := by kernel_rfl
 i9 := by kernel_rfl
 i20 := by kernel_rfl
 i37 := by kernel_rfl
 i46 := by kernel_rfl
 i51 := by kernel_rfl
 i53 := by kernel_rfl
 i171 := by kernel_rfl
 i173 := by kernel_rfl
 i212 := by kernel_rfl
 i232 := by kernel_rfl
 i233 := by kernel_rfl
 m17 := by kernel_rfl
 m18 := by kernel_rfl
 m19 := by kernel_rfl }
theorem Tryz.extra169 : Builder.Extra Tryz.prog Tryz.lays169_ren := {
 sizeBuilder := by kernel_rfl
 liesBuilder := by kernel_rfl
 t5 := Tryz.underlying5
 a5 := Tryz.isAgg5
 z5 := Tryz.sizeOf5
 v5 := Tryz.zeroValue5
 infoByte := by kernel_rfl
 cellsByte := by kernel_rfl
 sizeByte := by kernel_rfl
 neB5 := by decide }
end Go.Proofs
open Go Go.Av Go.Hh Go.Proofs
namespace Go.Av
theorem dgF_eq : ∀ (f u : Nat), u < 10 ^ (f + 1) → dgF (f + 1) u = Lib.decDigits u
 | f, u, h => by
  rw [Lib.decDigits]
  unfold dgF
  by_cases hu : u < 10
  ·rw [dif_pos hu, lt_blt hu, cond_true]
  ·have hb : Nat.blt u 10 = false := by cases hb : Nat.blt u 10 with | true => exact absurd (blt_lt hb) hu | false => rfl
   rw [dif_neg hu, hb, cond_false]
   cases f with
   | zero => exact absurd h (by omega)
   | succ f => rw [dgF_eq f (u / 10) (by rw [Nat.pow_succ] at h; omega)]
theorem decB_itoa {n : Int} (h : p123 n) : decB n = ⟨(Lib.itoa n).toArray⟩ := by
 obtain ⟨h1, h2⟩ := h
 unfold decB Lib.itoa
 by_cases hn : n < 0
 ·rw [decide_eq_true hn, cond_true, if_pos hn, dgF_eq 19 _ (by omega)]
 ·rw [decide_eq_false hn, cond_false, if_neg hn, dgF_eq 19 _ (by omega)]
def tabG (G : Glob) (g : Nat) : Prop := G g = some (Lib.pow10Tab.map fun z => RV.v (.int .u64 z))
theorem tab_is {P : Program} {w : World} {ro : Nat → Prop} {G : Glob} {g : Nat} {zs : List Int} {k : IntKind} {name : String} (hg : GRel w ro G) (ht : G g = some (zs.map fun z => RV.v (.int k z))) (hn : P.globalNamed name = some g) : Lib.TabIs P w name k zs := by
 obtain ⟨h1, h2, arr, t, fr, h3, h4⟩ := hg g _ ht
 unfold Lib.TabIs World.var?
 rw [hn]
 simp only [Option.bind_some, h3, Option.some.injEq]
 rw [List.length_map] at h4
 apply Array.ext
 ·simp [h4]
 ·intro i hi hi'
  cases h1 with
  | ptr _ _ c q1 q2 =>
   have hiz : i < zs.length := by omega
   have hx : (zs.map fun z => RV.v (.int k z))[i]? = some (.v (.int k zs[i])) := by rw [List.getElem?_map, List.getElem?_eq_getElem hiz]; rfl
   have a1 := (q1 i _ hx).2
   have a2 := q2 i _ hx
   generalize c i = ci at a1 a2
   cases a2
   rw [addLit, Nat.zero_add, cell_of_row w g i arr t fr h3] at a1
   have : arr[i]? = some (.int k zs[i]) := by simpa using a1
   rw [Array.getElem?_eq_getElem hi] at this
   simpa using this
theorem zOk_ {G : Glob} : ZOk PG G 60 108 5 := ⟨fun hid hr => strAl Tryz.lays169 Tryz.extra169 hid hr, fun hid => strA_nil Tryz.lays169 Tryz.extra169 hid⟩
theorem g123 {G : Glob} (hG : tabG G 2) : MdOk PG G 123 md123 := by
 intro (n : Int) (hn : p123 n) w β ro cargs h1 h2 h3 h4 h5
 let n' := 0
 have hc0 : cargs.getD 0 undef = .int .i64 n := ARel.val (h2 0 _ rfl)
 have hca : cargs = #[.int .i64 n] := by
  have hs : cargs.size = 1 := h1
  apply Array.ext
  ·simpa using hs
  ·intro i hi1 hi2
   have : i = 0 := by omega
   subst this
   simpa [Array.getD, hs] using hc0
 rw [hca]
 refine Calls.mono (Any.strconv_Itoa Tryz.laysItoa n hn.1 hn.2 w (tab_is h4 hG (by kernel_rfl))) fun e w' ⟨he, k, os, hw⟩ => ?_
 subst hw
 have hold : ∀ b, b < w.heap.size → (Sort.grow (w.drewN k) os).heap[b]? = w.heap[b]? := fun b hb => by
  show (w.heap ++ os)[b]? = _
  rw [Array.getElem?_append_left hb]
 have hsz : w.heap.size ≤ (Sort.grow (w.drewN k) os).heap.size := by
  show w.heap.size ≤ (w.heap ++ os).size
  simp
 refine ⟨_, _, [], β, ro, n', he, rfl, ?_, ⟨by simp [hget], by simp [hget], fun b _ => noOwn β b, fun b hb => Nat.lt_of_lt_of_le (h3.lt b hb) hsz⟩, ⟨rfl, rfl, rfl, hsz, fun b hb _ => hold b hb, fun _ h => .inl h, fun _ h => h, fun b h => absurd h (noOwn β b), fun _ _ o hg => (by simp [hget] at hg), fun _ o hg => (by simp [hget] at hg), Nat.le_refl _⟩⟩
 rw [← decB_itoa hn]
 exact .ofV rfl
theorem w64 {n : Int} (h : p52 n) : IntKind.wrap .i64 n = n := by
 obtain ⟨h1, h2⟩ := h
 simp only [IntKind.wrap, IntKind.bits, IntKind.signed]
 simp
 omega
theorem dgF_len : ∀ (f u : Nat), (dgF f u).length ≤ f
 | 0, _ => Nat.le_refl _
 | f + 1, u => by
  unfold dgF
  cases Nat.blt u 10 with
  | true => simp
  | false =>
   have := dgF_len f (u / 10)
   simp
   omega
theorem decB_size (n : Int) : (decB n).size ≤ 21 := by
 unfold decB
 show (List.toArray _).size ≤ 21
 rw [List.size_toArray]
 cases decide (n < 0) with
 | true => have := dgF_len 20 n.natAbs; simp; omega
 | false => have := dgF_len 20 n.toNat; simp; omega
theorem app_mk (a b : List UInt8) : ByteArray.append ⟨a.toArray⟩ ⟨b.toArray⟩ = ⟨(a ++ b).toArray⟩ := by
 show (⟨a.toArray⟩ ++ ⟨b.toArray⟩ : ByteArray) = _
 apply ByteArray.ext
 rw [ByteArray.data_append]
 simp
theorem decB_pos {n : Int} (h : p52 n) (h0 : 0 ≤ n) : decB n = ⟨(Lib.decDigits n.toNat).toArray⟩ := by
 rw [decB_itoa h]
 unfold Lib.itoa
 rw [if_neg (by omega)]
theorem decB_neg {n : Int} (h : p52 n) (h0 : n < 0) : decB n = ⟨(45 :: Lib.decDigits n.natAbs).toArray⟩ := by
 rw [decB_itoa h]
 unfold Lib.itoa
 rw [if_pos h0]
theorem dec_small {u : Nat} (h : u < 10) : Lib.decDigits u = [UInt8.ofNat (48 + u)] := by rw [Lib.decDigits, dif_pos h]
theorem dec_big {u : Nat} (h : 10 ≤ u) : Lib.decDigits u = Lib.decDigits (u / 10) ++ Lib.decDigits (u % 10) := by
 rw [Lib.decDigits, dif_neg (by omega), dec_small (u := u % 10) (by omega)]
def mu52 (n : Int) : Nat := 2 * n.natAbs + (bif decide (n < 0) then 1 else 0)
noncomputable def M52 (k : Nat) : List Md := [⟨[.int .i64], [.str], some fun n => p52 n ∧ mu52 n < k, fun n => decB n⟩]
def C52 : List Cn := [⟨52, 0, [.int .i64], [.str], false⟩]
noncomputable def t52 : Tr := inlE PG (Hd.all PG Ty_) Ty_ (60, 108, 5) [] C52 16 52 (svsOf 0 [.int .i64]) (S00 1)
def B52 (x0 : Int) : ByteArray :=
 bif ((decide (x0 < 0)) && (decide (x0 > (-10)))) then
  (ByteArray.append (⟨#[45]⟩ : ByteArray) (decB (IntKind.wrap .i64 (0 - x0))))
 else
  bif (decide (x0 < 0)) then
   (ByteArray.append (decB (arI .quo .i64 x0 (10 : Int))) (decB (IntKind.wrap .i64 (0 - (arI .rem .i64 x0 (10 : Int))))))
  else
   bif (decide (x0 > 9)) then
    (ByteArray.append (decB (arI .quo .i64 x0 (10 : Int))) (decB (arI .rem .i64 x0 (10 : Int))))
   else
    (bytesOf ([(IntKind.wrap .u8 (IntKind.wrap .i64 ((48 : Int) + x0)))] : List Int))
def A52 (k : Nat) (x0 : Int) : Prop :=
 (((decide (x0 < 0)) && (decide (x0 > (-10)))) = true → (
  let v4 : Int := IntKind.wrap .i64 (0 - x0)
  (p52 v4 ∧ mu52 v4 < k) ∧
  ByteArray.size (⟨#[45]⟩ : ByteArray) + ByteArray.size (decB v4) ≤ 9223372036854775807)) ∧ (((decide (x0 < 0)) && (decide (x0 > (-10)))) = false → (
  ((decide (x0 < 0)) = true → (
   let v5 : Int := arI .quo .i64 x0 (10 : Int)
   (p52 v5 ∧ mu52 v5 < k) ∧
   let v8 : Int := IntKind.wrap .i64 (0 - (arI .rem .i64 x0 (10 : Int)))
   (p52 v8 ∧ mu52 v8 < k) ∧
   ByteArray.size (decB v5) + ByteArray.size (decB v8) ≤ 9223372036854775807)) ∧ ((decide (x0 < 0)) = false → (
   ((decide (x0 > 9)) = true → (
    let v6 : Int := arI .quo .i64 x0 (10 : Int)
    (p52 v6 ∧ mu52 v6 < k) ∧
    let v8 : Int := arI .rem .i64 x0 (10 : Int)
    (p52 v8 ∧ mu52 v8 < k) ∧
    ByteArray.size (decB v6) + ByteArray.size (decB v8) ≤ 9223372036854775807))))))
theorem mu_pos {n : Int} (h : 0 ≤ n) : mu52 n = 2 * n.toNat := by
 unfold mu52
 rw [decide_eq_false (by omega), cond_false]
 omega
theorem mu_neg {n : Int} (h : n < 0) : mu52 n = 2 * n.natAbs + 1 := by
 unfold mu52
 rw [decide_eq_true h, cond_true]
theorem qr_pos {n : Int} (h : 0 ≤ n) : n.tdiv 10 = ((n.toNat / 10 : Nat) : Int) ∧ n.tmod 10 = ((n.toNat % 10 : Nat) : Int) := by
 obtain ⟨m, rfl⟩ : ∃ m : Nat, n = m := ⟨_, (Int.toNat_of_nonneg h).symm⟩
 exact ⟨rfl, rfl⟩
theorem qr_neg {n : Int} (h : n < 0) : n.tdiv 10 = -((n.natAbs / 10 : Nat) : Int) ∧ n.tmod 10 = -((n.natAbs % 10 : Nat) : Int) := by
 obtain ⟨m, rfl⟩ : ∃ m : Nat, n = -(m : Int) := ⟨n.natAbs, by omega⟩
 rw [Int.neg_tdiv, Int.neg_tmod, Int.natAbs_neg, Int.natAbs_natCast]
 exact ⟨rfl, rfl⟩
theorem ask52 {k : Nat} {x : Int} (h : p52 x) (hk : mu52 x < k + 1) : A52 k x := by
 have hs := fun n => decB_size n
 obtain ⟨h1, h2⟩ := h
 refine ⟨fun hc => ?_, fun hc => ⟨fun hd => ?_, fun hd he => ?_⟩⟩
 ·simp only [Bool.and_eq_true, decide_eq_true_eq] at hc
  have hw : IntKind.wrap .i64 (0 - x) = 0 - x := w64 ⟨by omega, by omega⟩
  show (p52 _ ∧ mu52 _ < k) ∧ _
  rw [hw]
  rw [mu_neg hc.1] at hk
  refine ⟨⟨⟨by omega, by omega⟩, by rw [mu_pos (by omega)]; omega⟩, ?_⟩
  have := hs (0 - x)
  have h45 : ByteArray.size (⟨#[45]⟩ : ByteArray) = 1 := rfl
  omega
 ·have hd := of_decide_eq_true hd
  simp only [Bool.and_eq_false_iff, decide_eq_false_iff_not] at hc
  obtain ⟨q1, q2⟩ := qr_neg hd
  have hw : arI .quo .i64 x 10 = -((x.natAbs / 10 : Nat) : Int) := by
   show IntKind.wrap .i64 (x.tdiv 10) = _
   rw [q1]
   exact w64 ⟨by omega, by omega⟩
  have hv : IntKind.wrap .i64 (0 - arI .rem .i64 x 10) = ((x.natAbs % 10 : Nat) : Int) := by
   show IntKind.wrap .i64 (0 - x.tmod 10) = _
   rw [q2, show (0 : Int) - -((x.natAbs % 10 : Nat) : Int) = ((x.natAbs % 10 : Nat) : Int) by omega]
   exact w64 ⟨by omega, by omega⟩
  show (p52 (arI .quo .i64 x 10) ∧ mu52 (arI .quo .i64 x 10) < k) ∧ (p52 (IntKind.wrap .i64 (0 - arI .rem .i64 x 10)) ∧ mu52 (IntKind.wrap .i64 (0 - arI .rem .i64 x 10)) < k) ∧ ByteArray.size (decB (arI .quo .i64 x 10)) + ByteArray.size (decB (IntKind.wrap .i64 (0 - arI .rem .i64 x 10))) ≤ _
  rw [hw, hv]
  rw [mu_neg hd] at hk
  refine ⟨⟨⟨by omega, by omega⟩, by rw [mu_neg (by omega)]; omega⟩, ⟨⟨by omega, by omega⟩, by rw [mu_pos (by omega)]; omega⟩, ?_⟩
  have a1 := hs (-((x.natAbs / 10 : Nat) : Int))
  have a2 := hs ((x.natAbs % 10 : Nat) : Int)
  omega
 ·have hd := of_decide_eq_false hd
  have he := of_decide_eq_true he
  obtain ⟨q1, q2⟩ := qr_pos (n := x) (by omega)
  have hw : arI .quo .i64 x 10 = ((x.toNat / 10 : Nat) : Int) := by
   show IntKind.wrap .i64 (x.tdiv 10) = _
   rw [q1]
   exact w64 ⟨by omega, by omega⟩
  have hv : arI .rem .i64 x 10 = ((x.toNat % 10 : Nat) : Int) := q2
  show (p52 (arI .quo .i64 x 10) ∧ mu52 (arI .quo .i64 x 10) < k) ∧ (p52 (arI .rem .i64 x 10) ∧ mu52 (arI .rem .i64 x 10) < k) ∧ ByteArray.size (decB (arI .quo .i64 x 10)) + ByteArray.size (decB (arI .rem .i64 x 10)) ≤ _
  rw [hw, hv]
  rw [mu_pos (by omega)] at hk
  refine ⟨⟨⟨by omega, by omega⟩, by rw [mu_pos (by omega)]; omega⟩, ⟨⟨by omega, by omega⟩, by rw [mu_pos (by omega)]; omega⟩, ?_⟩
  have a1 := hs ((x.toNat / 10 : Nat) : Int)
  have a2 := hs ((x.toNat % 10 : Nat) : Int)
  omega
theorem body52 {x : Int} (h : p52 x) : B52 x = decB x := by
 obtain ⟨h1, h2⟩ := h
 unfold B52
 by_cases hn : x < 0
 ·rw [decide_eq_true hn, Bool.true_and, cond_true]
  obtain ⟨q1, q2⟩ := qr_neg hn
  by_cases h10 : x > -10
  ·have hw : IntKind.wrap .i64 (0 - x) = 0 - x := w64 ⟨by omega, by omega⟩
   rw [decide_eq_true h10, cond_true, hw, decB_pos ⟨by omega, by omega⟩ (by omega), decB_neg ⟨h1, h2⟩ hn, show (⟨#[45]⟩ : ByteArray) = ⟨[45].toArray⟩ from rfl, app_mk]
   rw [show (0 - x).toNat = x.natAbs by omega]
   rfl
  ·have hw : arI .quo .i64 x 10 = -((x.natAbs / 10 : Nat) : Int) := by
    show IntKind.wrap .i64 (x.tdiv 10) = _
    rw [q1]
    exact w64 ⟨by omega, by omega⟩
   have hv : IntKind.wrap .i64 (0 - arI .rem .i64 x 10) = ((x.natAbs % 10 : Nat) : Int) := by
    show IntKind.wrap .i64 (0 - x.tmod 10) = _
    rw [q2, show (0 : Int) - -((x.natAbs % 10 : Nat) : Int) = ((x.natAbs % 10 : Nat) : Int) by omega]
    exact w64 ⟨by omega, by omega⟩
   rw [decide_eq_false h10, cond_false, hw, hv, decB_neg ⟨by omega, by omega⟩ (by omega), decB_pos ⟨by omega, by omega⟩ (by omega), decB_neg ⟨h1, h2⟩ hn, app_mk, dec_big (u := x.natAbs) (by omega)]
   rw [Int.natAbs_neg, Int.natAbs_natCast, Int.toNat_natCast]
   rfl
 ·rw [decide_eq_false hn, Bool.false_and, cond_false, cond_false]
  obtain ⟨q1, q2⟩ := qr_pos (n := x) (by omega)
  by_cases h9 : x > 9
  ·have hw : arI .quo .i64 x 10 = ((x.toNat / 10 : Nat) : Int) := by
    show IntKind.wrap .i64 (x.tdiv 10) = _
    rw [q1]
    exact w64 ⟨by omega, by omega⟩
   have hv : arI .rem .i64 x 10 = ((x.toNat % 10 : Nat) : Int) := q2
   rw [decide_eq_true h9, cond_true, hw, hv, decB_pos ⟨by omega, by omega⟩ (by omega), decB_pos ⟨by omega, by omega⟩ (by omega), decB_pos ⟨h1, h2⟩ (by omega), app_mk, dec_big (u := x.toNat) (by omega)]
   rw [Int.toNat_natCast, Int.toNat_natCast]
  ·rw [decide_eq_false h9, cond_false, decB_pos ⟨h1, h2⟩ (by omega), dec_small (by omega)]
   have : x = 0 ∨ x = 1 ∨ x = 2 ∨ x = 3 ∨ x = 4 ∨ x = 5 ∨ x = 6 ∨ x = 7 ∨ x = 8 ∨ x = 9 := by omega
   rcases this with rfl | rfl | rfl | rfl | rfl | rfl | rfl | rfl | rfl | rfl <;> decide
theorem s52 {G : Glob} : ∀ k : Nat, MdOk PG G 52 ⟨[.int .i64], [.str], some fun n => p52 n ∧ mu52 n < k, fun n => decB n⟩
  | 0 => fun _ hx => absurd hx.2 (Nat.not_lt_zero _)
  | k + 1 => md_wpP (M := M52 k) (inlE_ok (Z := (60, 108, 5)) (B := []) (C := C52) all_ok zOk_ (fun _ h => nomatch h) (CnsOk.cons ⟨rfl, rfl, s52 k, fun h => by cases h⟩ CnsOk.nil) 16) t52 rfl (by kernel_rfl)
      (fun x hx => by
        have e : askT (M52 k) t52 (envA 0 (upL [.int .i64] x)) = A52 k x := by kernel_rfl
        show askT (M52 k) t52 (envA 0 (upL [.int .i64] x))
        rw [e]
        exact ask52 hx.1 hx.2)
      (fun x hx => by
        have e : modelR (M52 k) t52 [.str] (envA 0 (upL [.int .i64] x)) = B52 x := by kernel_rfl
        show modelR (M52 k) t52 [.str] (envA 0 (upL [.int .i64] x)) = decB x
        rw [e]
        exact body52 hx.1)
theorem g52 {G : Glob} : MdOk PG G 52 md52 := fun x hx => s52 (mu52 x + 1) x ⟨hx, Nat.lt_succ_self _⟩
end Go.Av
