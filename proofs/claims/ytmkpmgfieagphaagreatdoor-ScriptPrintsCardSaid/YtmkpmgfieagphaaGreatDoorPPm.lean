/- Models, printed. Conditions: none. -/
import Derived.Test.YtmkpmgfieagphaaGreatDoorPTEk
open Go Go.Av Go.Hh
namespace Go.Av
def nthL {α : Type} [Inhabited α] : List α → Nat → α
 | [], _ => default
 | [x], _ => x
 | x :: l, n => bif Nat.beq n 0 then x else nthL l (n - 1)
noncomputable def m93 (x0 : Int) : ByteArray :=
 Sum.elim (fun r => r) (fun c0 =>
  (bytesOf (List.append c0.2 ([(IntKind.wrap .u8 c0.1)] : List Int))))
 (loopW (fun (c1 : Int × (List Int)) =>
  show Step (ByteArray) (Int × (List Int)) from
  bif (decide (c1.1 ≥ 128)) then
   .nxt ((arI .shr .u64 c1.1 (7 : Int)), (List.append c1.2 ([(arI .or .u8 (IntKind.wrap .u8 c1.1) (128 : Int))] : List Int)))
  else
   .brk (c1.1, c1.2)) fuelW ((arI .xor .u64 (arI .shl .u64 (IntKind.wrap .u64 x0) (1 : Int)) (IntKind.wrap .u64 (arI .shr .i64 x0 (63 : Int)))), []) : ByteArray ⊕ (Int × (List Int)))
def p93 (x0 : Int) : Prop :=
 let k0 : (Int × (List Int)) → Prop := fun c0 =>
  let v9 : List Int := ([(IntKind.wrap .u8 c0.1)] : List Int)
  List.length c0.2 + List.length v9 ≤ maxLen ∧ (List.length c0.2 + List.length v9) * 1 ≤ 140737488355328
 ∃ (I0 : (Int × (List Int)) → Prop) (u0 : (Int × (List Int)) → Nat), I0 ((arI .xor .u64 (arI .shl .u64 (IntKind.wrap .u64 x0) (1 : Int)) (IntKind.wrap .u64 (arI .shr .i64 x0 (63 : Int)))), []) ∧ u0 ((arI .xor .u64 (arI .shl .u64 (IntKind.wrap .u64 x0) (1 : Int)) (IntKind.wrap .u64 (arI .shr .i64 x0 (63 : Int)))), []) < fuelW ∧ ∀ (d0 : Int × (List Int)), I0 d0 → (
  ((decide (d0.1 ≥ 128)) = true → (
   let v11 : List Int := ([(arI .or .u8 (IntKind.wrap .u8 d0.1) (128 : Int))] : List Int)
   (List.length d0.2 + List.length v11 ≤ maxLen ∧ (List.length d0.2 + List.length v11) * 1 ≤ 140737488355328) ∧
   I0 ((arI .shr .u64 d0.1 (7 : Int)), (List.append d0.2 v11)) ∧ u0 ((arI .shr .u64 d0.1 (7 : Int)), (List.append d0.2 v11)) < u0 d0)) ∧ ((decide (d0.1 ≥ 128)) = false → (
   k0 (d0.1, d0.2))))
noncomputable def m94 (x0 : ByteArray) : ByteArray :=
 (ByteArray.append (m93 (ByteArray.size x0 : Int)) x0)
def p94 (x0 : ByteArray) : Prop :=
 let v1 : Int := (ByteArray.size x0 : Int)
 let v2 := m93 v1
 (p93 v1) ∧
 ByteArray.size v2 + ByteArray.size x0 ≤ 9223372036854775807
noncomputable def m193 (x0 : Int) : Bool :=
 ((decide (x0 ≥ (-1099511627776))) && (decide (x0 ≤ 1099511627776)))
noncomputable def m119 (x0 : Val) : Int :=
 let j2 : Bool → Int := fun v1 =>
  bif !v1 then
   2
  else
   bif (decide ((ByteArray.size x0.s : Int) > 60)) then
    3
   else
    bif ((cmS .neq x0.s (⟨#[]⟩ : ByteArray)) && (x0.kind != 4)) then
     4
    else
     0
 let j1 : Bool → Int := fun v1 =>
  bif v1 then
   j2 (x0.n == 0)
  else
   bif (x0.kind == 1) then
    j2 ((x0.n == 0) || (x0.n == 1))
   else
    bif (x0.kind == 2) then
     j2 (m193 x0.n)
    else
     bif (x0.kind == 3) then
      j2 ((decide (x0.n ≥ 0)) && (decide (x0.n ≤ 63)))
     else
      7
 let v1 := x0.kind == 0
 bif v1 then
  j1 v1
 else
  j1 (x0.kind == 4)
noncomputable def m95 (x0 : Val) : ByteArray :=
 let j1 : Int → Int → ByteArray → ByteArray := fun v3 v4 v5 =>
  let v6 := m93 v3
  let j2 : ByteArray → ByteArray := fun v7 =>
   v7
  let j1 : Bool → ByteArray := fun v7 =>
   bif v7 then
    j2 (ByteArray.append v6 (m93 v4))
   else
    bif (v3 == 4) then
     j2 (ByteArray.append v6 (m94 v5))
    else
     j2 v6
  let v7 := v3 == 1
  bif v7 then
   j1 v7
  else
   let v8 := v3 == 2
   bif v8 then
    j1 v8
   else
    j1 (v3 == 3)
 bif ((m119 x0) != 0) then
  j1 (0 : Int) (0 : Int) (⟨#[]⟩ : ByteArray)
 else
  j1 x0.kind x0.n x0.s
def p95 (x0 : Val) : Prop :=
 let j1 : Int → Int → ByteArray → Prop := fun v3 v4 v5 =>
  let v6 := m93 v3
  (p93 v3) ∧
  let j1 : Bool → Prop := fun v7 =>
   (v7 = true → (
    let v9 := m93 v4
    (p93 v4) ∧
    ByteArray.size v6 + ByteArray.size v9 ≤ 9223372036854775807)) ∧ (v7 = false → (
    ((v3 == 4) = true → (
     let v10 := m94 v5
     (p94 v5) ∧
     ByteArray.size v6 + ByteArray.size v10 ≤ 9223372036854775807))))
  let v7 := v3 == 1
  (v7 = true → (
   j1 v7)) ∧ (v7 = false → (
   let v8 := v3 == 2
   (v8 = true → (
    j1 v8)) ∧ (v8 = false → (
    j1 (v3 == 3)))))
 (((m119 x0) != 0) = true → (
  j1 (0 : Int) (0 : Int) (⟨#[]⟩ : ByteArray))) ∧ (((m119 x0) != 0) = false → (
  j1 x0.kind x0.n x0.s))
noncomputable def m28 (x0 : Req) : ByteArray :=
 let v13 := ByteArray.append (ByteArray.append (ByteArray.append (ByteArray.append (ByteArray.append (ByteArray.append (m93 x0.kind) (m93 x0.nonce)) (m93 x0.key.dev)) (m94 x0.key.cluster)) (m94 x0.key.attr)) (m94 x0.name)) (m95 ⟨x0.value.kind, x0.value.n, x0.value.s⟩)
 (ByteArray.append v13 (m94 x0.text))
def p28 (x0 : Req) : Prop :=
 let v1 := m93 x0.kind
 (p93 x0.kind) ∧
 let v2 := m93 x0.nonce
 (p93 x0.nonce) ∧
 let v3 := ByteArray.append v1 v2
 (ByteArray.size v1 + ByteArray.size v2 ≤ 9223372036854775807) ∧
 let v4 := m93 x0.key.dev
 (p93 x0.key.dev) ∧
 let v5 := ByteArray.append v3 v4
 (ByteArray.size v3 + ByteArray.size v4 ≤ 9223372036854775807) ∧
 let v6 := m94 x0.key.cluster
 (p94 x0.key.cluster) ∧
 let v7 := ByteArray.append v5 v6
 (ByteArray.size v5 + ByteArray.size v6 ≤ 9223372036854775807) ∧
 let v8 := m94 x0.key.attr
 (p94 x0.key.attr) ∧
 let v9 := ByteArray.append v7 v8
 (ByteArray.size v7 + ByteArray.size v8 ≤ 9223372036854775807) ∧
 let v10 := m94 x0.name
 (p94 x0.name) ∧
 let v11 := ByteArray.append v9 v10
 (ByteArray.size v9 + ByteArray.size v10 ≤ 9223372036854775807) ∧
 let v12 := m95 ⟨x0.value.kind, x0.value.n, x0.value.s⟩
 (p95 ⟨x0.value.kind, x0.value.n, x0.value.s⟩) ∧
 let v13 := ByteArray.append v11 v12
 (ByteArray.size v11 + ByteArray.size v12 ≤ 9223372036854775807) ∧
 let v14 := m94 x0.text
 (p94 x0.text) ∧
 ByteArray.size v13 + ByteArray.size v14 ≤ 9223372036854775807
noncomputable def m38 (x0 : ActV) : ActV :=
 let j2 : Int → Int → Int → ByteArray → ByteArray → Int → Int → ByteArray → Int → ByteArray → ByteArray → ByteArray → Int → Int → Int → ByteArray → ByteArray → ByteArray → Int → Int → ByteArray → ByteArray → ActV := fun v3 v4 v5 v6 v7 v8 v9 v10 v11 v12 v13 v14 v15 v16 v17 v18 v19 v20 v21 v22 v23 v24 =>
  ⟨x0.kind, v3, v4, ⟨v5, v6, v7⟩, ⟨v8, v9, v10⟩, ⟨v11, v12, v13⟩, ⟨v14, ⟨v15, v16, ⟨v17, v18, v19⟩, v20, ⟨v21, v22, v23⟩, v24⟩⟩⟩
 let j1 : Bool → ActV := fun v1 =>
  bif v1 then
   j2 (0 : Int) (0 : Int) x0.key.dev x0.key.cluster x0.key.attr x0.value.kind x0.value.n x0.value.s (0 : Int) (⟨#[]⟩ : ByteArray) (⟨#[]⟩ : ByteArray) (⟨#[]⟩ : ByteArray) (0 : Int) (0 : Int) (0 : Int) (⟨#[]⟩ : ByteArray) (⟨#[]⟩ : ByteArray) (⟨#[]⟩ : ByteArray) (0 : Int) (0 : Int) (⟨#[]⟩ : ByteArray) (⟨#[]⟩ : ByteArray)
  else
   bif (x0.kind == 3) then
    j2 (0 : Int) (0 : Int) (0 : Int) (⟨#[]⟩ : ByteArray) (⟨#[]⟩ : ByteArray) (0 : Int) (0 : Int) (⟨#[]⟩ : ByteArray) x0.event.dev x0.event.cluster x0.event.name (⟨#[]⟩ : ByteArray) (0 : Int) (0 : Int) (0 : Int) (⟨#[]⟩ : ByteArray) (⟨#[]⟩ : ByteArray) (⟨#[]⟩ : ByteArray) (0 : Int) (0 : Int) (⟨#[]⟩ : ByteArray) (⟨#[]⟩ : ByteArray)
   else
    bif (x0.kind == 12) then
     j2 (0 : Int) (0 : Int) (0 : Int) (⟨#[]⟩ : ByteArray) (⟨#[]⟩ : ByteArray) (0 : Int) (0 : Int) (⟨#[]⟩ : ByteArray) (0 : Int) (⟨#[]⟩ : ByteArray) (⟨#[]⟩ : ByteArray) x0.asked.token x0.asked.request.kind x0.asked.request.nonce x0.asked.request.key.dev x0.asked.request.key.cluster x0.asked.request.key.attr x0.asked.request.name x0.asked.request.value.kind x0.asked.request.value.n x0.asked.request.value.s x0.asked.request.text
    else
     let j1 : Bool → ActV := fun v5 =>
      bif v5 then
       j2 x0.n x0.m (0 : Int) (⟨#[]⟩ : ByteArray) (⟨#[]⟩ : ByteArray) (0 : Int) (0 : Int) (⟨#[]⟩ : ByteArray) (0 : Int) (⟨#[]⟩ : ByteArray) (⟨#[]⟩ : ByteArray) (⟨#[]⟩ : ByteArray) (0 : Int) (0 : Int) (0 : Int) (⟨#[]⟩ : ByteArray) (⟨#[]⟩ : ByteArray) (⟨#[]⟩ : ByteArray) (0 : Int) (0 : Int) (⟨#[]⟩ : ByteArray) (⟨#[]⟩ : ByteArray)
      else
       bif (x0.kind == 14) then
        j2 (0 : Int) (0 : Int) (0 : Int) (⟨#[]⟩ : ByteArray) (⟨#[]⟩ : ByteArray) (0 : Int) (0 : Int) (⟨#[]⟩ : ByteArray) (0 : Int) (⟨#[]⟩ : ByteArray) (⟨#[]⟩ : ByteArray) (⟨#[]⟩ : ByteArray) (0 : Int) (0 : Int) (0 : Int) (⟨#[]⟩ : ByteArray) (⟨#[]⟩ : ByteArray) (⟨#[]⟩ : ByteArray) (0 : Int) (0 : Int) (⟨#[]⟩ : ByteArray) (⟨#[]⟩ : ByteArray)
       else
        j2 x0.n (0 : Int) (0 : Int) (⟨#[]⟩ : ByteArray) (⟨#[]⟩ : ByteArray) (0 : Int) (0 : Int) (⟨#[]⟩ : ByteArray) (0 : Int) (⟨#[]⟩ : ByteArray) (⟨#[]⟩ : ByteArray) (⟨#[]⟩ : ByteArray) (0 : Int) (0 : Int) (0 : Int) (⟨#[]⟩ : ByteArray) (⟨#[]⟩ : ByteArray) (⟨#[]⟩ : ByteArray) (0 : Int) (0 : Int) (⟨#[]⟩ : ByteArray) (⟨#[]⟩ : ByteArray)
     let v5 := x0.kind == 8
     bif v5 then
      j1 v5
     else
      j1 (x0.kind == 9)
 let v1 := x0.kind == 2
 bif v1 then
  j1 v1
 else
  j1 (x0.kind == 13)
noncomputable def m39 (x0 : ActV) : Int :=
 let j1 : Int → Int := fun v1 =>
  bif ((((decide (x0.n < v1)) || (decide (x0.n > 1099511627776))) || (decide (x0.m < 0))) || (decide (x0.m > 1099511627776))) then
   2
  else
   let j2 : Int → Int := fun v10 =>
    bif ((decide (v10 < 1)) || (decide (v10 > 250))) then
     2
    else
     0
   let j1 : Bool → Int := fun v10 =>
    bif v10 then
     j2 x0.key.dev
    else
     bif (x0.kind == 3) then
      j2 x0.event.dev
     else
      j2 (1 : Int)
   let v10 := x0.kind == 2
   bif v10 then
    j1 v10
   else
    j1 (x0.kind == 13)
 bif (x0.kind == 11) then
  j1 ((-1) : Int)
 else
  j1 (0 : Int)
noncomputable def m151 (x0 : Rd) : Rd × Int :=
 bif !x0.made then
  (x0, 15)
 else
  (x0, x0.err)
noncomputable def m152 (x0 : ByteArray) : Int × Int × Int :=
 let v1 : Int := (ByteArray.size x0 : Int)
 Sum.elim (fun r => r) (fun c0 =>
  (0, 0, 5))
 (loopS (fun (i3 : Nat) (c1 : Int) =>
  show Step (Int × Int × Int) (Int) from
  let v5 : Int := byteI x0 (i3 : Int)
  bif (((decide ((i3 : Int) > 0)) && (v5 == 0)) || (((i3 : Int) == 9) && (decide (v5 > 1)))) then
   .ret (0, 0, 4)
  else
   let v17 : Int := arI .or .u64 c1 (arI .shl .u64 (IntKind.wrap .u64 (arI .and .u8 v5 (127 : Int))) (IntKind.wrap .i64 ((7 : Int) * (i3 : Int))))
   bif (decide (v5 < 128)) then
    .ret (v17, (IntKind.wrap .i64 ((i3 : Int) + (1 : Int))), 0)
   else
    .nxt v17) 0 (Int.toNat v1) 0 : (Int × Int × Int) ⊕ (Int))
def p152 (x0 : ByteArray) : Prop :=
 let v1 : Int := (ByteArray.size x0 : Int)
 (0 ≤ v1 ∧ v1 < (9223372036854775808 : Int)) ∧
 ∃ I0 : Nat → (Int) → Prop, I0 0 0 ∧ ∀ (i3 : Nat) (d0 : Int), i3 < Int.toNat v1 → I0 i3 d0 → (
  let v5 : Int := byteI x0 (i3 : Int)
  ((((decide ((i3 : Int) > 0)) && (v5 == 0)) || (((i3 : Int) == 9) && (decide (v5 > 1)))) = false → (
   let v14 : Int := IntKind.wrap .u64 (arI .and .u8 v5 (127 : Int))
   let v15 : Int := IntKind.wrap .i64 ((7 : Int) * (i3 : Int))
   (0 ≤ v15) ∧
   let v17 : Int := arI .or .u64 d0 (arI .shl .u64 v14 v15)
   ((decide (v5 < 128)) = false → (
    I0 (i3 + 1) v17)))))
noncomputable def m82 (x0 : Rd) : Rd × Int :=
 let v1 := m151 x0
 bif (v1.2 != 0) then
  (v1.1, 0)
 else
  let v5 := m152 v1.1.rest
  bif (v5.2.2 != 0) then
   (⟨v1.1.rest, v5.2.2, v1.1.made⟩, 0)
  else
   (⟨(strV v1.1.rest (some v5.2.1) none), v1.1.err, v1.1.made⟩, (arI .xor .i64 (IntKind.wrap .i64 (arI .shr .u64 v5.1 (1 : Int))) (IntKind.wrap .i64 (0 - (IntKind.wrap .i64 (arI .and .u64 v5.1 (1 : Int)))))))
def p82 (x0 : Rd) : Prop :=
 let v1 := m151 x0
 ((v1.2 != 0) = false → (
  let v5 := m152 v1.1.rest
  (p152 v1.1.rest) ∧
  ((v5.2.2 != 0) = false → (
   sbNeed (ByteArray.size v1.1.rest) (some v5.2.1) none))))
noncomputable def m153 (x0 : Rd) (x1 : Int) : Rd × Int :=
 let v2 := m82 x0
 let v5 := m151 v2.1
 bif (v5.2 != 0) then
  (v5.1, 0)
 else
  bif (decide (v2.2 < 0)) then
   (⟨v5.1.rest, 4, v5.1.made⟩, 0)
  else
   bif (decide (v2.2 > (F2.den (.mx .i64) x1 (0 : Int)))) then
    (⟨v5.1.rest, 3, v5.1.made⟩, 0)
   else
    (v5.1, v2.2)
def p153 (x0 : Rd) (x1 : Int) : Prop :=
 let v2 := m82 x0
 p82 x0
noncomputable def m83 (x0 : Rd) (x1 : Int) : Rd × ByteArray :=
 let v2 := m153 x0 x1
 let v5 := m151 v2.1
 bif (v5.2 != 0) then
  (v5.1, ⟨#[]⟩)
 else
  bif (decide (v2.2 > (ByteArray.size v5.1.rest : Int))) then
   (⟨v5.1.rest, 5, v5.1.made⟩, ⟨#[]⟩)
  else
   (⟨(strV v5.1.rest (some v2.2) none), v5.1.err, v5.1.made⟩, (strV v5.1.rest none (some v2.2)))
def p83 (x0 : Rd) (x1 : Int) : Prop :=
 let v2 := m153 x0 x1
 (p153 x0 x1) ∧
 let v5 := m151 v2.1
 ((v5.2 != 0) = false → (
  ((decide (v2.2 > (ByteArray.size v5.1.rest : Int))) = false → (
   (sbNeed (ByteArray.size v5.1.rest) none (some v2.2)) ∧
   sbNeed (ByteArray.size v5.1.rest) (some v2.2) none))))
noncomputable def m154 (x0 : Rd) (x1 : Int) : Rd :=
 let v2 := m151 x0
 bif (v2.2 == 0) then
  ⟨v2.1.rest, x1, v2.1.made⟩
 else
  v2.1
noncomputable def m84 (x0 : Rd) : Rd × Val :=
 let v1 := m82 x0
 let j2 : Int → ByteArray → ByteArray → Int → Bool → Rd × Val := fun v6 v7 v8 v9 v10 =>
  let j1 : ByteArray → Int → Bool → Rd × Val := fun v13 v14 v15 =>
   let v16 := m151 ⟨v13, v14, v15⟩
   bif (v16.2 != 0) then
    (v16.1, ⟨0, 0, ⟨#[]⟩⟩)
   else
    (v16.1, ⟨v1.2, v6, v7⟩)
  bif ((m119 ⟨v1.2, v6, v7⟩) != 0) then
   let v13 := m154 ⟨v8, v9, v10⟩ (4 : Int)
   j1 v13.rest v13.err v13.made
  else
   j1 v8 v9 v10
 let j1 : Bool → Rd × Val := fun v4 =>
  bif v4 then
   let v6 := m82 v1.1
   j2 v6.2 (⟨#[]⟩ : ByteArray) v6.1.rest v6.1.err v6.1.made
  else
   bif (v1.2 == 4) then
    let v7 := m83 v1.1 (60 : Int)
    j2 (0 : Int) v7.2 v7.1.rest v7.1.err v7.1.made
   else
    j2 (0 : Int) (⟨#[]⟩ : ByteArray) v1.1.rest v1.1.err v1.1.made
 let v4 := v1.2 == 1
 bif v4 then
  j1 v4
 else
  let v5 := v1.2 == 2
  bif v5 then
   j1 v5
  else
   j1 (v1.2 == 3)
def p84 (x0 : Rd) : Prop :=
 let v1 := m82 x0
 (p82 x0) ∧
 let j1 : Bool → Prop := fun v4 =>
  (v4 = true → (
   let v6 := m82 v1.1
   p82 v1.1)) ∧ (v4 = false → (
   ((v1.2 == 4) = true → (
    let v7 := m83 v1.1 (60 : Int)
    p83 v1.1 (60 : Int)))))
 let v4 := v1.2 == 1
 (v4 = true → (
  j1 v4)) ∧ (v4 = false → (
  let v5 := v1.2 == 2
  (v5 = true → (
   j1 v5)) ∧ (v5 = false → (
   j1 (v1.2 == 3)))))
noncomputable def m155 (x0 : Rd) : Rd × Int :=
 let v1 := m151 x0
 bif (v1.2 != 0) then
  (v1.1, 0)
 else
  (v1.1, (ByteArray.size v1.1.rest : Int))
noncomputable def m85 (x0 : Rd) : Rd × Int :=
 let v1 := m155 x0
 bif (decide (v1.2 > 0)) then
  (v1.1, 23)
 else
  let v5 := m151 v1.1
  (v5.1, v5.2)
noncomputable def m67 (x0 : Req) : Int :=
 bif ((decide (x0.kind < 1)) || (decide (x0.kind > 7))) then
  7
 else
  0
noncomputable def m69 (x0 : Req) : Int :=
 bif ((decide (x0.nonce < 0)) || (decide (x0.nonce > 1099511627776))) then
  2
 else
  0
noncomputable def m26 (x0 : ByteArray) : Req × Int :=
 let v1 := m82 ⟨x0, 0, true⟩
 let v4 := m82 v1.1
 let v7 := m82 v4.1
 let v10 := m83 v7.1 (24 : Int)
 let v13 := m83 v10.1 (24 : Int)
 let v16 := m83 v13.1 (24 : Int)
 let v19 := m84 v16.1
 let v22 := m83 v19.1 (20000 : Int)
 let j1 : Int → Req × Int := fun v25 =>
  bif (v25 != 0) then
   (⟨0, 0, ⟨0, ⟨#[]⟩, ⟨#[]⟩⟩, ⟨#[]⟩, ⟨0, 0, ⟨#[]⟩⟩, ⟨#[]⟩⟩, v25)
  else
   (⟨v1.2, v4.2, ⟨v7.2, v10.2, v13.2⟩, v16.2, ⟨v19.2.kind, v19.2.n, v19.2.s⟩, v22.2⟩, 0)
 let v25 := m85 v22.1
 bif (v25.2 != 0) then
  j1 v25.2
 else
  let v29 := m67 ⟨v1.2, v4.2, ⟨v7.2, v10.2, v13.2⟩, v16.2, ⟨v19.2.kind, v19.2.n, v19.2.s⟩, v22.2⟩
  bif (v29 != 0) then
   j1 v29
  else
   let v31 := m69 ⟨v1.2, v4.2, ⟨v7.2, v10.2, v13.2⟩, v16.2, ⟨v19.2.kind, v19.2.n, v19.2.s⟩, v22.2⟩
   bif (v31 != 0) then
    j1 v31
   else
    j1 (0 : Int)
def p26 (x0 : ByteArray) : Prop :=
 let v1 := m82 ⟨x0, 0, true⟩
 (p82 ⟨x0, 0, true⟩) ∧
 let v4 := m82 v1.1
 (p82 v1.1) ∧
 let v7 := m82 v4.1
 (p82 v4.1) ∧
 let v10 := m83 v7.1 (24 : Int)
 (p83 v7.1 (24 : Int)) ∧
 let v13 := m83 v10.1 (24 : Int)
 (p83 v10.1 (24 : Int)) ∧
 let v16 := m83 v13.1 (24 : Int)
 (p83 v13.1 (24 : Int)) ∧
 let v19 := m84 v16.1
 (p84 v16.1) ∧
 let v22 := m83 v19.1 (20000 : Int)
 p83 v19.1 (20000 : Int)
noncomputable def m192 (x0 : Int) : Bool :=
 ((decide (x0 ≥ 97)) && (decide (x0 ≤ 122)))
noncomputable def m118 (x0 : ByteArray) : Bool :=
 bif ((decide ((ByteArray.size x0 : Int) < 1)) || (decide ((ByteArray.size x0 : Int) > 24))) then
  false
 else
  Sum.elim (fun r => r) (fun c0 =>
   true)
  (loopW (fun (c1 : Int) =>
   show Step (Bool) (Int) from
   let v9 : Int := F2.den .rnV x0 c1
   bif (F2.den .rnB x0 c1) then
    bif ((!(m192 v9)) && (((F2.den .rnP x0 c1) == 0) || (((v9 != 95) && (v9 != 45)) && ((decide (v9 < 48)) || (decide (v9 > 57)))))) then
     .ret false
    else
     .nxt (F2.den .rnN x0 c1)
   else
    .brk c1) fuelW 0 : Bool ⊕ (Int))
def p118 (x0 : ByteArray) : Prop :=
 (((decide ((ByteArray.size x0 : Int) < 1)) || (decide ((ByteArray.size x0 : Int) > 24))) = false → (
  ∃ (I0 : (Int) → Prop) (u0 : (Int) → Nat), I0 0 ∧ u0 0 < fuelW ∧ ∀ (d0 : Int), I0 d0 → (
   let v9 : Int := F2.den .rnV x0 d0
   ((F2.den .rnB x0 d0) = true → (
    (((!(m192 v9)) && (((F2.den .rnP x0 d0) == 0) || (((v9 != 95) && (v9 != 45)) && ((decide (v9 < 48)) || (decide (v9 > 57)))))) = false → (
     I0 (F2.den .rnN x0 d0) ∧ u0 (F2.den .rnN x0 d0) < u0 d0)))))))
noncomputable def m120 (x0 : ByteArray) : Bool :=
 Sum.elim (fun r => r) (fun c0 =>
  ((decide ((ByteArray.size x0 : Int) ≥ 1)) && (decide ((ByteArray.size x0 : Int) ≤ 1000))))
 (loopW (fun (c1 : Int) =>
  show Step (Bool) (Int) from
  let v4 : Int := F2.den .rnV x0 c1
  bif (F2.den .rnB x0 c1) then
   bif ((decide (v4 < 33)) || (decide (v4 > 126))) then
    .ret false
   else
    .nxt (F2.den .rnN x0 c1)
  else
   .brk c1) fuelW 0 : Bool ⊕ (Int))
def p120 (x0 : ByteArray) : Prop :=
 ∃ (I0 : (Int) → Prop) (u0 : (Int) → Nat), I0 0 ∧ u0 0 < fuelW ∧ ∀ (d0 : Int), I0 d0 → (
  let v4 : Int := F2.den .rnV x0 d0
  ((F2.den .rnB x0 d0) = true → (
   (((decide (v4 < 33)) || (decide (v4 > 126))) = false → (
    I0 (F2.den .rnN x0 d0) ∧ u0 (F2.den .rnN x0 d0) < u0 d0)))))
noncomputable def m40 (x0 : ActV) : Int :=
 let j2 : Int :=
  0
 let j1 : Bool → Int := fun v1 =>
  bif v1 then
   let v4 := !(m118 x0.key.cluster)
   let j1 : Bool → Int := fun v5 =>
    bif (v4 || (!v5)) then
     10
    else
     let v8 := m119 ⟨x0.value.kind, x0.value.n, x0.value.s⟩
     bif (v8 != 0) then
      v8
     else
      bif (x0.value.kind == 0) then
       4
      else
       j2 
   bif v4 then
    j1 false
   else
    j1 (m118 x0.key.attr)
  else
   bif (x0.kind == 3) then
    let v5 := !(m118 x0.event.cluster)
    let j1 : Bool → Int := fun v6 =>
     bif (v5 || (!v6)) then
      10
     else
      j2 
    bif v5 then
     j1 false
    else
     j1 (m118 x0.event.name)
   else
    bif (x0.kind == 12) then
     let v5 := m28 ⟨x0.asked.request.kind, x0.asked.request.nonce, ⟨x0.asked.request.key.dev, x0.asked.request.key.cluster, x0.asked.request.key.attr⟩, x0.asked.request.name, ⟨x0.asked.request.value.kind, x0.asked.request.value.n, x0.asked.request.value.s⟩, x0.asked.request.text⟩
     let v6 := m26 v5
     let v10 := !(bif v6.1.kind == x0.asked.request.kind then bif v6.1.nonce == x0.asked.request.nonce then bif v6.1.key.dev == x0.asked.request.key.dev then bif beqS v6.1.key.cluster x0.asked.request.key.cluster then bif beqS v6.1.key.attr x0.asked.request.key.attr then bif beqS v6.1.name x0.asked.request.name then bif v6.1.value.kind == x0.asked.request.value.kind then bif v6.1.value.n == x0.asked.request.value.n then bif beqS v6.1.value.s x0.asked.request.value.s then beqS v6.1.text x0.asked.request.text else false else false else false else false else false else false else false else false else false)
     let v11 : Bool := (v6.2 != 0) || v10
     let j1 : Bool → Int := fun v12 =>
      bif (v11 || (!v12)) then
       4
      else
       j2 
     bif v11 then
      j1 false
     else
      j1 (m120 x0.asked.token)
    else
     j2 
 let v1 := x0.kind == 2
 bif v1 then
  j1 v1
 else
  j1 (x0.kind == 13)
def p40 (x0 : ActV) : Prop :=
 let j1 : Bool → Prop := fun v1 =>
  (v1 = true → (
   (p118 x0.key.cluster) ∧
   let v4 := !(m118 x0.key.cluster)
   (v4 = false → (
    p118 x0.key.attr)))) ∧ (v1 = false → (
   ((x0.kind == 3) = true → (
    (p118 x0.event.cluster) ∧
    let v5 := !(m118 x0.event.cluster)
    (v5 = false → (
     p118 x0.event.name)))) ∧ ((x0.kind == 3) = false → (
    ((x0.kind == 12) = true → (
     let v5 := m28 ⟨x0.asked.request.kind, x0.asked.request.nonce, ⟨x0.asked.request.key.dev, x0.asked.request.key.cluster, x0.asked.request.key.attr⟩, x0.asked.request.name, ⟨x0.asked.request.value.kind, x0.asked.request.value.n, x0.asked.request.value.s⟩, x0.asked.request.text⟩
     (p28 ⟨x0.asked.request.kind, x0.asked.request.nonce, ⟨x0.asked.request.key.dev, x0.asked.request.key.cluster, x0.asked.request.key.attr⟩, x0.asked.request.name, ⟨x0.asked.request.value.kind, x0.asked.request.value.n, x0.asked.request.value.s⟩, x0.asked.request.text⟩) ∧
     let v6 := m26 v5
     (p26 v5) ∧
     let v10 := !(bif v6.1.kind == x0.asked.request.kind then bif v6.1.nonce == x0.asked.request.nonce then bif v6.1.key.dev == x0.asked.request.key.dev then bif beqS v6.1.key.cluster x0.asked.request.key.cluster then bif beqS v6.1.key.attr x0.asked.request.key.attr then bif beqS v6.1.name x0.asked.request.name then bif v6.1.value.kind == x0.asked.request.value.kind then bif v6.1.value.n == x0.asked.request.value.n then bif beqS v6.1.value.s x0.asked.request.value.s then beqS v6.1.text x0.asked.request.text else false else false else false else false else false else false else false else false else false)
     let v11 : Bool := (v6.2 != 0) || v10
     (v11 = false → (
      p120 x0.asked.token))))))))
 let v1 := x0.kind == 2
 (v1 = true → (
  j1 v1)) ∧ (v1 = false → (
  j1 (x0.kind == 13)))
def dgF : Nat → Nat → List UInt8
 | 0, _ => []
 | f + 1, u => bif Nat.blt u 10 then [UInt8.ofNat (48 + u)] else dgF f (u / 10) ++ [UInt8.ofNat (48 + u % 10)]
def decB (n : Int) : ByteArray := ⟨(bif decide (n < 0) then 45 :: dgF 20 n.natAbs else dgF 20 n.toNat).toArray⟩
def m123 (n : Int) : ByteArray := decB n
def p123 (n : Int) : Prop := -9223372036854775808 ≤ n ∧ n ≤ 9223372036854775807
noncomputable def m46 (x0 : Int) : ByteArray :=
 (m123 x0)
def p46 (x0 : Int) : Prop :=
 p123 x0
noncomputable def m44 (x0 : Int) (x1 : ByteArray) (x2 : ByteArray) : ByteArray :=
 (ByteArray.append (ByteArray.append (ByteArray.append (ByteArray.append (m46 x0) (⟨#[46]⟩ : ByteArray)) x1) (⟨#[46]⟩ : ByteArray)) x2)
def p44 (x0 : Int) (x1 : ByteArray) (x2 : ByteArray) : Prop :=
 let v3 := m46 x0
 (p46 x0) ∧
 let v4 := ByteArray.append v3 (⟨#[46]⟩ : ByteArray)
 (ByteArray.size v3 + ByteArray.size (⟨#[46]⟩ : ByteArray) ≤ 9223372036854775807) ∧
 let v5 := ByteArray.append v4 x1
 (ByteArray.size v4 + ByteArray.size x1 ≤ 9223372036854775807) ∧
 let v6 := ByteArray.append v5 (⟨#[46]⟩ : ByteArray)
 (ByteArray.size v5 + ByteArray.size (⟨#[46]⟩ : ByteArray) ≤ 9223372036854775807) ∧
 ByteArray.size v6 + ByteArray.size x2 ≤ 9223372036854775807
noncomputable def m42 (x0 : KeyV) : ByteArray :=
 (m44 x0.dev x0.cluster x0.attr)
def p42 (x0 : KeyV) : Prop :=
 p44 x0.dev x0.cluster x0.attr
noncomputable def m194 (x0 : Int) : ByteArray :=
 bif ((x0 == 34) || (x0 == 92)) then
  (ByteArray.append (⟨#[92]⟩ : ByteArray) (bytesOf ([x0] : List Int)))
 else
  bif ((decide (x0 < 32)) || (decide (x0 > 126))) then
   let v11 := ByteArray.append (⟨#[92, 120]⟩ : ByteArray) (strV (⟨#[48, 49, 50, 51, 52, 53, 54, 55, 56, 57, 97, 98, 99, 100, 101, 102]⟩ : ByteArray) (some (arI .shr .u8 x0 (4 : Int))) (some (IntKind.wrap .u8 ((arI .shr .u8 x0 (4 : Int)) + (1 : Int)))))
   let v16 := ByteArray.append v11 (strV (⟨#[48, 49, 50, 51, 52, 53, 54, 55, 56, 57, 97, 98, 99, 100, 101, 102]⟩ : ByteArray) (some (arI .and .u8 x0 (15 : Int))) (some (IntKind.wrap .u8 ((arI .and .u8 x0 (15 : Int)) + (1 : Int)))))
   v16
  else
   (bytesOf ([x0] : List Int))
def p194 (x0 : Int) : Prop :=
 (((x0 == 34) || (x0 == 92)) = true → (
  let v5 := bytesOf ([x0] : List Int)
  ByteArray.size (⟨#[92]⟩ : ByteArray) + ByteArray.size v5 ≤ 9223372036854775807)) ∧ (((x0 == 34) || (x0 == 92)) = false → (
  (((decide (x0 < 32)) || (decide (x0 > 126))) = true → (
   let v7 : Int := arI .shr .u8 x0 (4 : Int)
   let v9 : Int := IntKind.wrap .u8 ((arI .shr .u8 x0 (4 : Int)) + (1 : Int))
   let v10 := strV (⟨#[48, 49, 50, 51, 52, 53, 54, 55, 56, 57, 97, 98, 99, 100, 101, 102]⟩ : ByteArray) (some v7) (some v9)
   (sbNeed (ByteArray.size (⟨#[48, 49, 50, 51, 52, 53, 54, 55, 56, 57, 97, 98, 99, 100, 101, 102]⟩ : ByteArray)) (some v7) (some v9)) ∧
   let v11 := ByteArray.append (⟨#[92, 120]⟩ : ByteArray) v10
   (ByteArray.size (⟨#[92, 120]⟩ : ByteArray) + ByteArray.size v10 ≤ 9223372036854775807) ∧
   let v12 : Int := arI .and .u8 x0 (15 : Int)
   let v14 : Int := IntKind.wrap .u8 ((arI .and .u8 x0 (15 : Int)) + (1 : Int))
   let v15 := strV (⟨#[48, 49, 50, 51, 52, 53, 54, 55, 56, 57, 97, 98, 99, 100, 101, 102]⟩ : ByteArray) (some v12) (some v14)
   (sbNeed (ByteArray.size (⟨#[48, 49, 50, 51, 52, 53, 54, 55, 56, 57, 97, 98, 99, 100, 101, 102]⟩ : ByteArray)) (some v12) (some v14)) ∧
   ByteArray.size v11 + ByteArray.size v15 ≤ 9223372036854775807))))
noncomputable def m121 (x0 : ByteArray) : ByteArray :=
 let v2 : Int := (ByteArray.size x0 : Int)
 Sum.elim (fun r => r) (fun c0 =>
  (bytesOf (List.append c0 (F1.den .sb (⟨#[34]⟩ : ByteArray)))))
 (loopS (fun (i4 : Nat) (c1 : (List Int)) =>
  show Step (ByteArray) ((List Int)) from
  let v7 := m194 (byteI x0 (i4 : Int))
  .nxt (List.append c1 (F1.den .sb v7))) 0 (Int.toNat v2) (F1.den .sb (⟨#[34]⟩ : ByteArray)) : ByteArray ⊕ ((List Int)))
def p121 (x0 : ByteArray) : Prop :=
 let v1 : List Int := F1.den .sb (⟨#[34]⟩ : ByteArray)
 (List.length ([] : List Int) + List.length v1 ≤ maxLen ∧ (List.length ([] : List Int) + List.length v1) * 1 ≤ 140737488355328) ∧
 let v2 : Int := (ByteArray.size x0 : Int)
 (0 ≤ v2 ∧ v2 < (9223372036854775808 : Int)) ∧
 let k0 : (List Int) → Prop := fun c0 =>
  let v4 : List Int := F1.den .sb (⟨#[34]⟩ : ByteArray)
  List.length c0 + List.length v4 ≤ maxLen ∧ (List.length c0 + List.length v4) * 1 ≤ 140737488355328
 ∃ I0 : Nat → ((List Int)) → Prop, I0 0 v1 ∧ (∀ (i4 : Nat) (d0 : (List Int)), i4 < Int.toNat v2 → I0 i4 d0 → (
  let v6 : Int := byteI x0 (i4 : Int)
  let v7 := m194 v6
  (p194 v6) ∧
  let v8 : List Int := F1.den .sb v7
  (List.length d0 + List.length v8 ≤ maxLen ∧ (List.length d0 + List.length v8) * 1 ≤ 140737488355328) ∧
  I0 (i4 + 1) (List.append d0 v8))) ∧ ∀ c0, I0 (Int.toNat v2) c0 → k0 c0
noncomputable def m43 (x0 : Val) : ByteArray :=
 bif ((m119 x0) != 0) then
  ⟨#[]⟩
 else
  bif (x0.kind == 1) then
   bif (x0.n == 1) then
    ⟨#[116, 114, 117, 101]⟩
   else
    ⟨#[102, 97, 108, 115, 101]⟩
  else
   bif (x0.kind == 2) then
    (m46 x0.n)
   else
    bif (x0.kind == 3) then
     (ByteArray.append (⟨#[35]⟩ : ByteArray) (m46 x0.n))
    else
     bif (x0.kind == 4) then
      (m121 x0.s)
     else
      ⟨#[110, 111, 110, 101]⟩
def p43 (x0 : Val) : Prop :=
 (((m119 x0) != 0) = false → (
  ((x0.kind == 1) = false → (
   ((x0.kind == 2) = true → (
    p46 x0.n)) ∧ ((x0.kind == 2) = false → (
    ((x0.kind == 3) = true → (
     let v6 := m46 x0.n
     (p46 x0.n) ∧
     ByteArray.size (⟨#[35]⟩ : ByteArray) + ByteArray.size v6 ≤ 9223372036854775807)) ∧ ((x0.kind == 3) = false → (
     ((x0.kind == 4) = true → (
      p121 x0.s))))))))))
noncomputable def m45 (x0 : ByteArray) : ByteArray :=
 let v1 : Int := byteI (⟨#[48, 49, 50, 51, 52, 53, 54, 55, 56, 57, 97, 98, 99, 100, 101, 102]⟩ : ByteArray) (0 : Int)
 let v2 : Int := byteI (⟨#[48, 49, 50, 51, 52, 53, 54, 55, 56, 57, 97, 98, 99, 100, 101, 102]⟩ : ByteArray) (1 : Int)
 let v3 : Int := byteI (⟨#[48, 49, 50, 51, 52, 53, 54, 55, 56, 57, 97, 98, 99, 100, 101, 102]⟩ : ByteArray) (2 : Int)
 let v4 : Int := byteI (⟨#[48, 49, 50, 51, 52, 53, 54, 55, 56, 57, 97, 98, 99, 100, 101, 102]⟩ : ByteArray) (3 : Int)
 let v5 : Int := byteI (⟨#[48, 49, 50, 51, 52, 53, 54, 55, 56, 57, 97, 98, 99, 100, 101, 102]⟩ : ByteArray) (4 : Int)
 let v6 : Int := byteI (⟨#[48, 49, 50, 51, 52, 53, 54, 55, 56, 57, 97, 98, 99, 100, 101, 102]⟩ : ByteArray) (5 : Int)
 let v7 : Int := byteI (⟨#[48, 49, 50, 51, 52, 53, 54, 55, 56, 57, 97, 98, 99, 100, 101, 102]⟩ : ByteArray) (6 : Int)
 let v8 : Int := byteI (⟨#[48, 49, 50, 51, 52, 53, 54, 55, 56, 57, 97, 98, 99, 100, 101, 102]⟩ : ByteArray) (7 : Int)
 let v9 : Int := byteI (⟨#[48, 49, 50, 51, 52, 53, 54, 55, 56, 57, 97, 98, 99, 100, 101, 102]⟩ : ByteArray) (8 : Int)
 let v10 : Int := byteI (⟨#[48, 49, 50, 51, 52, 53, 54, 55, 56, 57, 97, 98, 99, 100, 101, 102]⟩ : ByteArray) (9 : Int)
 let v11 : Int := byteI (⟨#[48, 49, 50, 51, 52, 53, 54, 55, 56, 57, 97, 98, 99, 100, 101, 102]⟩ : ByteArray) (10 : Int)
 let v12 : Int := byteI (⟨#[48, 49, 50, 51, 52, 53, 54, 55, 56, 57, 97, 98, 99, 100, 101, 102]⟩ : ByteArray) (11 : Int)
 let v13 : Int := byteI (⟨#[48, 49, 50, 51, 52, 53, 54, 55, 56, 57, 97, 98, 99, 100, 101, 102]⟩ : ByteArray) (12 : Int)
 let v14 : Int := byteI (⟨#[48, 49, 50, 51, 52, 53, 54, 55, 56, 57, 97, 98, 99, 100, 101, 102]⟩ : ByteArray) (13 : Int)
 let v15 : Int := byteI (⟨#[48, 49, 50, 51, 52, 53, 54, 55, 56, 57, 97, 98, 99, 100, 101, 102]⟩ : ByteArray) (14 : Int)
 let v16 : Int := byteI (⟨#[48, 49, 50, 51, 52, 53, 54, 55, 56, 57, 97, 98, 99, 100, 101, 102]⟩ : ByteArray) (15 : Int)
 let v17 : Int := (ByteArray.size x0 : Int)
 Sum.elim (fun r => r) (fun c0 =>
  (bytesOf c0))
 (loopS (fun (i21 : Nat) (c1 : (List Int)) =>
  show Step (ByteArray) ((List Int)) from
  let v29 : List Int := ([(nthL ([v1, v2, v3, v4, v5, v6, v7, v8, v9, v10, v11, v12, v13, v14, v15, v16] : List Int) (Int.toNat (arI .shr .u8 (byteI x0 (i21 : Int)) (4 : Int)))), (nthL ([v1, v2, v3, v4, v5, v6, v7, v8, v9, v10, v11, v12, v13, v14, v15, v16] : List Int) (Int.toNat (arI .and .u8 (byteI x0 (i21 : Int)) (15 : Int))))] : List Int)
  .nxt (List.append c1 v29)) 0 (Int.toNat v17) (List.replicate (Int.toNat (0 : Int)) (dT .u8)) : ByteArray ⊕ ((List Int)))
def p45 (x0 : ByteArray) : Prop :=
 let v1 : Int := byteI (⟨#[48, 49, 50, 51, 52, 53, 54, 55, 56, 57, 97, 98, 99, 100, 101, 102]⟩ : ByteArray) (0 : Int)
 (0 ≤ (0 : Int) ∧ (0 : Int) < (ByteArray.size (⟨#[48, 49, 50, 51, 52, 53, 54, 55, 56, 57, 97, 98, 99, 100, 101, 102]⟩ : ByteArray) : Int)) ∧
 let v2 : Int := byteI (⟨#[48, 49, 50, 51, 52, 53, 54, 55, 56, 57, 97, 98, 99, 100, 101, 102]⟩ : ByteArray) (1 : Int)
 (0 ≤ (1 : Int) ∧ (1 : Int) < (ByteArray.size (⟨#[48, 49, 50, 51, 52, 53, 54, 55, 56, 57, 97, 98, 99, 100, 101, 102]⟩ : ByteArray) : Int)) ∧
 let v3 : Int := byteI (⟨#[48, 49, 50, 51, 52, 53, 54, 55, 56, 57, 97, 98, 99, 100, 101, 102]⟩ : ByteArray) (2 : Int)
 (0 ≤ (2 : Int) ∧ (2 : Int) < (ByteArray.size (⟨#[48, 49, 50, 51, 52, 53, 54, 55, 56, 57, 97, 98, 99, 100, 101, 102]⟩ : ByteArray) : Int)) ∧
 let v4 : Int := byteI (⟨#[48, 49, 50, 51, 52, 53, 54, 55, 56, 57, 97, 98, 99, 100, 101, 102]⟩ : ByteArray) (3 : Int)
 (0 ≤ (3 : Int) ∧ (3 : Int) < (ByteArray.size (⟨#[48, 49, 50, 51, 52, 53, 54, 55, 56, 57, 97, 98, 99, 100, 101, 102]⟩ : ByteArray) : Int)) ∧
 let v5 : Int := byteI (⟨#[48, 49, 50, 51, 52, 53, 54, 55, 56, 57, 97, 98, 99, 100, 101, 102]⟩ : ByteArray) (4 : Int)
 (0 ≤ (4 : Int) ∧ (4 : Int) < (ByteArray.size (⟨#[48, 49, 50, 51, 52, 53, 54, 55, 56, 57, 97, 98, 99, 100, 101, 102]⟩ : ByteArray) : Int)) ∧
 let v6 : Int := byteI (⟨#[48, 49, 50, 51, 52, 53, 54, 55, 56, 57, 97, 98, 99, 100, 101, 102]⟩ : ByteArray) (5 : Int)
 (0 ≤ (5 : Int) ∧ (5 : Int) < (ByteArray.size (⟨#[48, 49, 50, 51, 52, 53, 54, 55, 56, 57, 97, 98, 99, 100, 101, 102]⟩ : ByteArray) : Int)) ∧
 let v7 : Int := byteI (⟨#[48, 49, 50, 51, 52, 53, 54, 55, 56, 57, 97, 98, 99, 100, 101, 102]⟩ : ByteArray) (6 : Int)
 (0 ≤ (6 : Int) ∧ (6 : Int) < (ByteArray.size (⟨#[48, 49, 50, 51, 52, 53, 54, 55, 56, 57, 97, 98, 99, 100, 101, 102]⟩ : ByteArray) : Int)) ∧
 let v8 : Int := byteI (⟨#[48, 49, 50, 51, 52, 53, 54, 55, 56, 57, 97, 98, 99, 100, 101, 102]⟩ : ByteArray) (7 : Int)
 (0 ≤ (7 : Int) ∧ (7 : Int) < (ByteArray.size (⟨#[48, 49, 50, 51, 52, 53, 54, 55, 56, 57, 97, 98, 99, 100, 101, 102]⟩ : ByteArray) : Int)) ∧
 let v9 : Int := byteI (⟨#[48, 49, 50, 51, 52, 53, 54, 55, 56, 57, 97, 98, 99, 100, 101, 102]⟩ : ByteArray) (8 : Int)
 (0 ≤ (8 : Int) ∧ (8 : Int) < (ByteArray.size (⟨#[48, 49, 50, 51, 52, 53, 54, 55, 56, 57, 97, 98, 99, 100, 101, 102]⟩ : ByteArray) : Int)) ∧
 let v10 : Int := byteI (⟨#[48, 49, 50, 51, 52, 53, 54, 55, 56, 57, 97, 98, 99, 100, 101, 102]⟩ : ByteArray) (9 : Int)
 (0 ≤ (9 : Int) ∧ (9 : Int) < (ByteArray.size (⟨#[48, 49, 50, 51, 52, 53, 54, 55, 56, 57, 97, 98, 99, 100, 101, 102]⟩ : ByteArray) : Int)) ∧
 let v11 : Int := byteI (⟨#[48, 49, 50, 51, 52, 53, 54, 55, 56, 57, 97, 98, 99, 100, 101, 102]⟩ : ByteArray) (10 : Int)
 (0 ≤ (10 : Int) ∧ (10 : Int) < (ByteArray.size (⟨#[48, 49, 50, 51, 52, 53, 54, 55, 56, 57, 97, 98, 99, 100, 101, 102]⟩ : ByteArray) : Int)) ∧
 let v12 : Int := byteI (⟨#[48, 49, 50, 51, 52, 53, 54, 55, 56, 57, 97, 98, 99, 100, 101, 102]⟩ : ByteArray) (11 : Int)
 (0 ≤ (11 : Int) ∧ (11 : Int) < (ByteArray.size (⟨#[48, 49, 50, 51, 52, 53, 54, 55, 56, 57, 97, 98, 99, 100, 101, 102]⟩ : ByteArray) : Int)) ∧
 let v13 : Int := byteI (⟨#[48, 49, 50, 51, 52, 53, 54, 55, 56, 57, 97, 98, 99, 100, 101, 102]⟩ : ByteArray) (12 : Int)
 (0 ≤ (12 : Int) ∧ (12 : Int) < (ByteArray.size (⟨#[48, 49, 50, 51, 52, 53, 54, 55, 56, 57, 97, 98, 99, 100, 101, 102]⟩ : ByteArray) : Int)) ∧
 let v14 : Int := byteI (⟨#[48, 49, 50, 51, 52, 53, 54, 55, 56, 57, 97, 98, 99, 100, 101, 102]⟩ : ByteArray) (13 : Int)
 (0 ≤ (13 : Int) ∧ (13 : Int) < (ByteArray.size (⟨#[48, 49, 50, 51, 52, 53, 54, 55, 56, 57, 97, 98, 99, 100, 101, 102]⟩ : ByteArray) : Int)) ∧
 let v15 : Int := byteI (⟨#[48, 49, 50, 51, 52, 53, 54, 55, 56, 57, 97, 98, 99, 100, 101, 102]⟩ : ByteArray) (14 : Int)
 (0 ≤ (14 : Int) ∧ (14 : Int) < (ByteArray.size (⟨#[48, 49, 50, 51, 52, 53, 54, 55, 56, 57, 97, 98, 99, 100, 101, 102]⟩ : ByteArray) : Int)) ∧
 let v16 : Int := byteI (⟨#[48, 49, 50, 51, 52, 53, 54, 55, 56, 57, 97, 98, 99, 100, 101, 102]⟩ : ByteArray) (15 : Int)
 (0 ≤ (15 : Int) ∧ (15 : Int) < (ByteArray.size (⟨#[48, 49, 50, 51, 52, 53, 54, 55, 56, 57, 97, 98, 99, 100, 101, 102]⟩ : ByteArray) : Int)) ∧
 let v17 : Int := (ByteArray.size x0 : Int)
 (0 ≤ (0 : Int) ∧ (0 : Int) ≤ (IntKind.wrap .i64 ((2 : Int) * v17)) ∧ (IntKind.wrap .i64 ((2 : Int) * v17)) ≤ (maxLen : Int) ∧ (1 : Int) * (IntKind.wrap .i64 ((2 : Int) * v17)) ≤ 281474976710656) ∧
 (0 ≤ v17 ∧ v17 < (9223372036854775808 : Int)) ∧
 ∃ I0 : Nat → ((List Int)) → Prop, I0 0 (List.replicate (Int.toNat (0 : Int)) (dT .u8)) ∧ ∀ (i21 : Nat) (d0 : (List Int)), i21 < Int.toNat v17 → I0 i21 d0 → (
  let v24 : Int := arI .shr .u8 (byteI x0 (i21 : Int)) (4 : Int)
  (0 ≤ v24 ∧ v24 < (16 : Int)) ∧
  (0 ≤ v24 ∧ v24 < (16 : Int)) ∧
  let v27 : Int := arI .and .u8 (byteI x0 (i21 : Int)) (15 : Int)
  (0 ≤ v27 ∧ v27 < (16 : Int)) ∧
  (0 ≤ v27 ∧ v27 < (16 : Int)) ∧
  let v29 : List Int := ([(nthL ([v1, v2, v3, v4, v5, v6, v7, v8, v9, v10, v11, v12, v13, v14, v15, v16] : List Int) (Int.toNat v24)), (nthL ([v1, v2, v3, v4, v5, v6, v7, v8, v9, v10, v11, v12, v13, v14, v15, v16] : List Int) (Int.toNat v27))] : List Int)
  (List.length d0 + List.length v29 ≤ maxLen ∧ (List.length d0 + List.length v29) * 1 ≤ 140737488355328) ∧
  I0 (i21 + 1) (List.append d0 v29))
noncomputable def m13 (x0 : ActV) : ByteArray × Int :=
 bif ((decide (x0.kind < 1)) || (decide (x0.kind > 16))) then
  (⟨#[]⟩, 7)
 else
  let v4 := m38 x0
  let v5 := !(bif v4.kind == x0.kind then bif v4.n == x0.n then bif v4.m == x0.m then bif v4.key.dev == x0.key.dev then bif beqS v4.key.cluster x0.key.cluster then bif beqS v4.key.attr x0.key.attr then bif v4.value.kind == x0.value.kind then bif v4.value.n == x0.value.n then bif beqS v4.value.s x0.value.s then bif v4.event.dev == x0.event.dev then bif beqS v4.event.cluster x0.event.cluster then bif beqS v4.event.name x0.event.name then bif beqS v4.asked.token x0.asked.token then bif v4.asked.request.kind == x0.asked.request.kind then bif v4.asked.request.nonce == x0.asked.request.nonce then bif v4.asked.request.key.dev == x0.asked.request.key.dev then bif beqS v4.asked.request.key.cluster x0.asked.request.key.cluster then bif beqS v4.asked.request.key.attr x0.asked.request.key.attr then bif beqS v4.asked.request.name x0.asked.request.name then bif v4.asked.request.value.kind == x0.asked.request.value.kind then bif v4.asked.request.value.n == x0.asked.request.value.n then bif beqS v4.asked.request.value.s x0.asked.request.value.s then beqS v4.asked.request.text x0.asked.request.text else false else false else false else false else false else false else false else false else false else false else false else false else false else false else false else false else false else false else false else false else false else false)
  bif v5 then
   (⟨#[]⟩, 1)
  else
   let v6 := m39 x0
   bif (v6 != 0) then
    (⟨#[]⟩, v6)
   else
    let v8 := m40 x0
    bif (v8 != 0) then
     (⟨#[]⟩, v8)
    else
     let v11 : ByteArray := nthL ([⟨#[116, 105, 99, 107]⟩, ⟨#[115, 101, 110, 115, 101]⟩, ⟨#[101, 118, 101, 110, 116]⟩, ⟨#[110, 111, 105, 115, 101]⟩, ⟨#[113, 117, 105, 101, 116]⟩, ⟨#[111, 102, 102]⟩, ⟨#[111, 110]⟩, ⟨#[99, 117, 116]⟩, ⟨#[106, 111, 105, 110]⟩, ⟨#[99, 114, 97, 115, 104]⟩, ⟨#[99, 108, 111, 99, 107]⟩, ⟨#[97, 115, 107]⟩, ⟨#[101, 110, 101, 114, 103, 121]⟩, ⟨#[109, 111, 118, 101]⟩, ⟨#[108, 111, 115, 101]⟩, ⟨#[116, 119, 105, 99, 101]⟩] : List ByteArray) (Int.toNat (IntKind.wrap .i64 (x0.kind - (1 : Int))))
     let j1 : Bool → ByteArray × Int := fun v12 =>
      bif v12 then
       let v19 := ByteArray.append (ByteArray.append (ByteArray.append (ByteArray.append v11 (⟨#[32]⟩ : ByteArray)) (m42 ⟨x0.key.dev, x0.key.cluster, x0.key.attr⟩)) (⟨#[32]⟩ : ByteArray)) (m43 ⟨x0.value.kind, x0.value.n, x0.value.s⟩)
       (v19, 0)
      else
       bif (x0.kind == 3) then
        ((ByteArray.append (ByteArray.append v11 (⟨#[32]⟩ : ByteArray)) (m44 x0.event.dev x0.event.cluster x0.event.name)), 0)
       else
        bif (x0.kind == 12) then
         let v19 := m28 ⟨x0.asked.request.kind, x0.asked.request.nonce, ⟨x0.asked.request.key.dev, x0.asked.request.key.cluster, x0.asked.request.key.attr⟩, x0.asked.request.name, ⟨x0.asked.request.value.kind, x0.asked.request.value.n, x0.asked.request.value.s⟩, x0.asked.request.text⟩
         ((ByteArray.append (ByteArray.append (ByteArray.append (ByteArray.append v11 (⟨#[32]⟩ : ByteArray)) x0.asked.token) (⟨#[32]⟩ : ByteArray)) (m45 v19)), 0)
        else
         let j1 : Bool → ByteArray × Int := fun v16 =>
          bif v16 then
           ((ByteArray.append (ByteArray.append (ByteArray.append (ByteArray.append v11 (⟨#[32]⟩ : ByteArray)) (m46 x0.n)) (⟨#[32]⟩ : ByteArray)) (m46 x0.m)), 0)
          else
           bif (x0.kind == 14) then
            (v11, 0)
           else
            ((ByteArray.append (ByteArray.append v11 (⟨#[32]⟩ : ByteArray)) (m46 x0.n)), 0)
         let v16 := x0.kind == 8
         bif v16 then
          j1 v16
         else
          j1 (x0.kind == 9)
     let v12 := x0.kind == 2
     bif v12 then
      j1 v12
     else
      j1 (x0.kind == 13)
def p13 (x0 : ActV) : Prop :=
 (((decide (x0.kind < 1)) || (decide (x0.kind > 16))) = false → (
  let v4 := m38 x0
  let v5 := !(bif v4.kind == x0.kind then bif v4.n == x0.n then bif v4.m == x0.m then bif v4.key.dev == x0.key.dev then bif beqS v4.key.cluster x0.key.cluster then bif beqS v4.key.attr x0.key.attr then bif v4.value.kind == x0.value.kind then bif v4.value.n == x0.value.n then bif beqS v4.value.s x0.value.s then bif v4.event.dev == x0.event.dev then bif beqS v4.event.cluster x0.event.cluster then bif beqS v4.event.name x0.event.name then bif beqS v4.asked.token x0.asked.token then bif v4.asked.request.kind == x0.asked.request.kind then bif v4.asked.request.nonce == x0.asked.request.nonce then bif v4.asked.request.key.dev == x0.asked.request.key.dev then bif beqS v4.asked.request.key.cluster x0.asked.request.key.cluster then bif beqS v4.asked.request.key.attr x0.asked.request.key.attr then bif beqS v4.asked.request.name x0.asked.request.name then bif v4.asked.request.value.kind == x0.asked.request.value.kind then bif v4.asked.request.value.n == x0.asked.request.value.n then bif beqS v4.asked.request.value.s x0.asked.request.value.s then beqS v4.asked.request.text x0.asked.request.text else false else false else false else false else false else false else false else false else false else false else false else false else false else false else false else false else false else false else false else false else false else false)
  (v5 = false → (
   let v6 := m39 x0
   ((v6 != 0) = false → (
    let v8 := m40 x0
    (p40 x0) ∧
    ((v8 != 0) = false → (
     let v10 : Int := IntKind.wrap .i64 (x0.kind - (1 : Int))
     let v11 : ByteArray := nthL ([⟨#[116, 105, 99, 107]⟩, ⟨#[115, 101, 110, 115, 101]⟩, ⟨#[101, 118, 101, 110, 116]⟩, ⟨#[110, 111, 105, 115, 101]⟩, ⟨#[113, 117, 105, 101, 116]⟩, ⟨#[111, 102, 102]⟩, ⟨#[111, 110]⟩, ⟨#[99, 117, 116]⟩, ⟨#[106, 111, 105, 110]⟩, ⟨#[99, 114, 97, 115, 104]⟩, ⟨#[99, 108, 111, 99, 107]⟩, ⟨#[97, 115, 107]⟩, ⟨#[101, 110, 101, 114, 103, 121]⟩, ⟨#[109, 111, 118, 101]⟩, ⟨#[108, 111, 115, 101]⟩, ⟨#[116, 119, 105, 99, 101]⟩] : List ByteArray) (Int.toNat v10)
     (0 ≤ v10 ∧ v10 < (16 : Int)) ∧
     let j1 : Bool → Prop := fun v12 =>
      (v12 = true → (
       let v14 := ByteArray.append v11 (⟨#[32]⟩ : ByteArray)
       (ByteArray.size v11 + ByteArray.size (⟨#[32]⟩ : ByteArray) ≤ 9223372036854775807) ∧
       let v15 := m42 ⟨x0.key.dev, x0.key.cluster, x0.key.attr⟩
       (p42 ⟨x0.key.dev, x0.key.cluster, x0.key.attr⟩) ∧
       let v16 := ByteArray.append v14 v15
       (ByteArray.size v14 + ByteArray.size v15 ≤ 9223372036854775807) ∧
       let v17 := ByteArray.append v16 (⟨#[32]⟩ : ByteArray)
       (ByteArray.size v16 + ByteArray.size (⟨#[32]⟩ : ByteArray) ≤ 9223372036854775807) ∧
       let v18 := m43 ⟨x0.value.kind, x0.value.n, x0.value.s⟩
       (p43 ⟨x0.value.kind, x0.value.n, x0.value.s⟩) ∧
       ByteArray.size v17 + ByteArray.size v18 ≤ 9223372036854775807)) ∧ (v12 = false → (
       ((x0.kind == 3) = true → (
        let v15 := ByteArray.append v11 (⟨#[32]⟩ : ByteArray)
        (ByteArray.size v11 + ByteArray.size (⟨#[32]⟩ : ByteArray) ≤ 9223372036854775807) ∧
        let v16 := m44 x0.event.dev x0.event.cluster x0.event.name
        (p44 x0.event.dev x0.event.cluster x0.event.name) ∧
        ByteArray.size v15 + ByteArray.size v16 ≤ 9223372036854775807)) ∧ ((x0.kind == 3) = false → (
        ((x0.kind == 12) = true → (
         let v16 := ByteArray.append v11 (⟨#[32]⟩ : ByteArray)
         (ByteArray.size v11 + ByteArray.size (⟨#[32]⟩ : ByteArray) ≤ 9223372036854775807) ∧
         let v17 := ByteArray.append v16 x0.asked.token
         (ByteArray.size v16 + ByteArray.size x0.asked.token ≤ 9223372036854775807) ∧
         let v18 := ByteArray.append v17 (⟨#[32]⟩ : ByteArray)
         (ByteArray.size v17 + ByteArray.size (⟨#[32]⟩ : ByteArray) ≤ 9223372036854775807) ∧
         let v19 := m28 ⟨x0.asked.request.kind, x0.asked.request.nonce, ⟨x0.asked.request.key.dev, x0.asked.request.key.cluster, x0.asked.request.key.attr⟩, x0.asked.request.name, ⟨x0.asked.request.value.kind, x0.asked.request.value.n, x0.asked.request.value.s⟩, x0.asked.request.text⟩
         (p28 ⟨x0.asked.request.kind, x0.asked.request.nonce, ⟨x0.asked.request.key.dev, x0.asked.request.key.cluster, x0.asked.request.key.attr⟩, x0.asked.request.name, ⟨x0.asked.request.value.kind, x0.asked.request.value.n, x0.asked.request.value.s⟩, x0.asked.request.text⟩) ∧
         let v20 := m45 v19
         (p45 v19) ∧
         ByteArray.size v18 + ByteArray.size v20 ≤ 9223372036854775807)) ∧ ((x0.kind == 12) = false → (
         let j1 : Bool → Prop := fun v16 =>
          (v16 = true → (
           let v18 := ByteArray.append v11 (⟨#[32]⟩ : ByteArray)
           (ByteArray.size v11 + ByteArray.size (⟨#[32]⟩ : ByteArray) ≤ 9223372036854775807) ∧
           let v19 := m46 x0.n
           (p46 x0.n) ∧
           let v20 := ByteArray.append v18 v19
           (ByteArray.size v18 + ByteArray.size v19 ≤ 9223372036854775807) ∧
           let v21 := ByteArray.append v20 (⟨#[32]⟩ : ByteArray)
           (ByteArray.size v20 + ByteArray.size (⟨#[32]⟩ : ByteArray) ≤ 9223372036854775807) ∧
           let v22 := m46 x0.m
           (p46 x0.m) ∧
           ByteArray.size v21 + ByteArray.size v22 ≤ 9223372036854775807)) ∧ (v16 = false → (
           ((x0.kind == 14) = false → (
            let v19 := ByteArray.append v11 (⟨#[32]⟩ : ByteArray)
            (ByteArray.size v11 + ByteArray.size (⟨#[32]⟩ : ByteArray) ≤ 9223372036854775807) ∧
            let v20 := m46 x0.n
            (p46 x0.n) ∧
            ByteArray.size v19 + ByteArray.size v20 ≤ 9223372036854775807))))
         let v16 := x0.kind == 8
         (v16 = true → (
          j1 v16)) ∧ (v16 = false → (
          j1 (x0.kind == 9)))))))))
     let v12 := x0.kind == 2
     (v12 = true → (
      j1 v12)) ∧ (v12 = false → (
      j1 (x0.kind == 13)))))))))))
noncomputable def m156 (x0 : Rd2) : Rd2 × Int :=
 bif !x0.made then
  (x0, 15)
 else
  (x0, x0.bad)
noncomputable def m89 (x0 : Rd2) : Rd2 × Int :=
 let v1 := m156 x0
 bif (v1.2 != 0) then
  (v1.1, 0)
 else
  Sum.elim (fun r => r) (fun c0 =>
   (v1.1, 0))
  (loopS (fun (i6 : Nat) (c1 : Int) =>
   show Step (Rd2 × Int) (Int) from
   bif (decide ((IntKind.wrap .i64 (v1.1.at_ + (i6 : Int))) ≥ (ByteArray.size v1.1.s : Int))) then
    .ret (⟨v1.1.s, v1.1.at_, 5, v1.1.made⟩, 0)
   else
    let v12 : Int := byteI v1.1.s (IntKind.wrap .i64 (v1.1.at_ + (i6 : Int)))
    bif (((decide ((i6 : Int) > 0)) && (v12 == 0)) || (((i6 : Int) == 9) && (decide (v12 > 1)))) then
     .ret (⟨v1.1.s, v1.1.at_, 4, v1.1.made⟩, 0)
    else
     let v24 : Int := arI .or .u64 c1 (arI .shl .u64 (IntKind.wrap .u64 (arI .rem .u8 v12 (128 : Int))) (IntKind.wrap .i64 ((7 : Int) * (i6 : Int))))
     bif (decide (v12 < 128)) then
      let v29 : Int := IntKind.wrap .i64 (arI .shr .u64 v24 (1 : Int))
      let j1 : Int → Step (Rd2 × Int) (Int) := fun v30 =>
       .ret (⟨v1.1.s, (IntKind.wrap .i64 ((IntKind.wrap .i64 (v1.1.at_ + (i6 : Int))) + (1 : Int))), v1.1.bad, v1.1.made⟩, v30)
      bif ((arI .rem .u64 v24 (2 : Int)) == 1) then
       j1 (IntKind.wrap .i64 (((-1) : Int) - v29))
      else
       j1 v29
     else
      .nxt v24) 0 (Int.toNat (10 : Int)) 0 : (Rd2 × Int) ⊕ (Int))
def p89 (x0 : Rd2) : Prop :=
 let v1 := m156 x0
 ((v1.2 != 0) = false → (
  ∃ I0 : Nat → (Int) → Prop, I0 0 0 ∧ ∀ (i6 : Nat) (d0 : Int), i6 < Int.toNat (10 : Int) → I0 i6 d0 → (
   ((decide ((IntKind.wrap .i64 (v1.1.at_ + (i6 : Int))) ≥ (ByteArray.size v1.1.s : Int))) = false → (
    let v11 : Int := IntKind.wrap .i64 (v1.1.at_ + (i6 : Int))
    let v12 : Int := byteI v1.1.s v11
    (0 ≤ v11 ∧ v11 < (ByteArray.size v1.1.s : Int)) ∧
    ((((decide ((i6 : Int) > 0)) && (v12 == 0)) || (((i6 : Int) == 9) && (decide (v12 > 1)))) = false → (
     let v21 : Int := IntKind.wrap .u64 (arI .rem .u8 v12 (128 : Int))
     let v22 : Int := IntKind.wrap .i64 ((7 : Int) * (i6 : Int))
     (0 ≤ v22) ∧
     let v24 : Int := arI .or .u64 d0 (arI .shl .u64 v21 v22)
     ((decide (v12 < 128)) = false → (
      I0 (i6 + 1) v24)))))))))
noncomputable def m157 (x0 : Rd2) (x1 : Int) : Rd2 × Int :=
 let v2 := m89 x0
 let j1 : Int → Rd2 × Int := fun v5 =>
  let v7 := m156 v2.1
  bif (v7.2 != 0) then
   (v7.1, 0)
  else
   bif (decide (v2.2 < 0)) then
    (⟨v7.1.s, v7.1.at_, 4, v7.1.made⟩, 0)
   else
    bif (decide (v2.2 > v5)) then
     (⟨v7.1.s, v7.1.at_, 3, v7.1.made⟩, 0)
    else
     (v7.1, v2.2)
 bif (decide (x1 < 0)) then
  j1 (0 : Int)
 else
  j1 x1
def p157 (x0 : Rd2) (x1 : Int) : Prop :=
 let v2 := m89 x0
 p89 x0
noncomputable def m90 (x0 : Rd2) (x1 : Int) : Rd2 × ByteArray :=
 let v2 := m157 x0 x1
 let v5 := m156 v2.1
 bif (v5.2 != 0) then
  (v5.1, ⟨#[]⟩)
 else
  bif (decide (v2.2 > (IntKind.wrap .i64 ((ByteArray.size v5.1.s : Int) - v5.1.at_)))) then
   (⟨v5.1.s, v5.1.at_, 5, v5.1.made⟩, ⟨#[]⟩)
  else
   (⟨v5.1.s, (IntKind.wrap .i64 (v5.1.at_ + v2.2)), v5.1.bad, v5.1.made⟩, (strV v5.1.s (some v5.1.at_) (some (IntKind.wrap .i64 (v5.1.at_ + v2.2)))))
def p90 (x0 : Rd2) (x1 : Int) : Prop :=
 let v2 := m157 x0 x1
 (p157 x0 x1) ∧
 let v5 := m156 v2.1
 ((v5.2 != 0) = false → (
  ((decide (v2.2 > (IntKind.wrap .i64 ((ByteArray.size v5.1.s : Int) - v5.1.at_)))) = false → (
   let v12 : Int := IntKind.wrap .i64 (v5.1.at_ + v2.2)
   sbNeed (ByteArray.size v5.1.s) (some v5.1.at_) (some v12)))))
noncomputable def m50 (x0 : Val) : Int :=
 let j2 : Int → Int → Int := fun v1 v2 =>
  bif ((decide (x0.n < v1)) || (decide (x0.n > v2))) then
   2
  else
   bif (decide ((ByteArray.size x0.s : Int) > 60)) then
    3
   else
    bif ((cmS .neq x0.s (⟨#[]⟩ : ByteArray)) && (x0.kind != 4)) then
     4
    else
     0
 let j1 : Bool → Int := fun v1 =>
  bif v1 then
   j2 (0 : Int) (0 : Int)
  else
   bif (x0.kind == 1) then
    j2 (0 : Int) (1 : Int)
   else
    bif (x0.kind == 2) then
     j2 ((-1099511627776) : Int) (1099511627776 : Int)
    else
     bif (x0.kind == 3) then
      j2 (0 : Int) (63 : Int)
     else
      7
 let v1 := x0.kind == 0
 bif v1 then
  j1 v1
 else
  j1 (x0.kind == 4)
noncomputable def m158 (x0 : Rd2) (x1 : Int) : Rd2 :=
 let v2 := m156 x0
 bif (v2.2 == 0) then
  ⟨v2.1.s, v2.1.at_, x1, v2.1.made⟩
 else
  v2.1
noncomputable def m91 (x0 : Rd2) : Rd2 × Val :=
 let v1 := m89 x0
 let j1 : ByteArray → ByteArray → Int → Int → Bool → Rd2 × Val := fun v5 v6 v7 v8 v9 =>
  let j1 : Int → ByteArray → Int → Int → Bool → Rd2 × Val := fun v13 v14 v15 v16 v17 =>
   let j2 : ByteArray → Int → Int → Bool → Rd2 × Val := fun v22 v23 v24 v25 =>
    let v26 := m156 ⟨v22, v23, v24, v25⟩
    bif (v26.2 != 0) then
     (v26.1, ⟨0, 0, ⟨#[]⟩⟩)
    else
     (v26.1, ⟨v1.2, v13, v5⟩)
   let v18 := m156 ⟨v14, v15, v16, v17⟩
   let v21 := v18.2 == 0
   let j1 : Int → Rd2 × Val := fun v22 =>
    bif (v21 && (v22 != 0)) then
     let v25 := m158 v18.1 (4 : Int)
     j2 v25.s v25.at_ v25.bad v25.made
    else
     j2 v18.1.s v18.1.at_ v18.1.bad v18.1.made
   bif v21 then
    j1 (m50 ⟨v1.2, v13, v5⟩)
   else
    j1 (0 : Int)
  bif ((decide (v1.2 ≥ 1)) && (decide (v1.2 ≤ 3))) then
   let v13 := m89 ⟨v6, v7, v8, v9⟩
   j1 v13.2 v13.1.s v13.1.at_ v13.1.bad v13.1.made
  else
   j1 (0 : Int) v6 v7 v8 v9
 bif (v1.2 == 4) then
  let v5 := m90 v1.1 (60 : Int)
  j1 v5.2 v5.1.s v5.1.at_ v5.1.bad v5.1.made
 else
  j1 (⟨#[]⟩ : ByteArray) v1.1.s v1.1.at_ v1.1.bad v1.1.made
def p91 (x0 : Rd2) : Prop :=
 let v1 := m89 x0
 (p89 x0) ∧
 let j1 : ByteArray → ByteArray → Int → Int → Bool → Prop := fun v5 v6 v7 v8 v9 =>
  (((decide (v1.2 ≥ 1)) && (decide (v1.2 ≤ 3))) = true → (
   let v13 := m89 ⟨v6, v7, v8, v9⟩
   p89 ⟨v6, v7, v8, v9⟩))
 ((v1.2 == 4) = true → (
  let v5 := m90 v1.1 (60 : Int)
  (p90 v1.1 (60 : Int)) ∧
  j1 v5.2 v5.1.s v5.1.at_ v5.1.bad v5.1.made)) ∧ ((v1.2 == 4) = false → (
  j1 (⟨#[]⟩ : ByteArray) v1.1.s v1.1.at_ v1.1.bad v1.1.made))
noncomputable def m92 (x0 : Rd2) : Rd2 × Int :=
 let v1 := m156 x0
 bif (v1.2 != 0) then
  let v5 := m156 v1.1
  (v5.1, v5.2)
 else
  bif (decide (v1.1.at_ < (ByteArray.size v1.1.s : Int))) then
   (v1.1, 23)
  else
   (v1.1, 0)
noncomputable def m27 (x0 : ByteArray) : Req × Int :=
 let v1 := m89 ⟨x0, 0, 0, true⟩
 let v4 := m89 v1.1
 let v7 := m89 v4.1
 let v10 := m90 v7.1 (24 : Int)
 let v13 := m90 v10.1 (24 : Int)
 let v16 := m90 v13.1 (24 : Int)
 let v19 := m91 v16.1
 let v22 := m90 v19.1 (20000 : Int)
 let v25 := m92 v22.1
 bif (v25.2 != 0) then
  (⟨0, 0, ⟨0, ⟨#[]⟩, ⟨#[]⟩⟩, ⟨#[]⟩, ⟨0, 0, ⟨#[]⟩⟩, ⟨#[]⟩⟩, v25.2)
 else
  bif ((decide (v1.2 < 1)) || (decide (v1.2 > 7))) then
   (⟨0, 0, ⟨0, ⟨#[]⟩, ⟨#[]⟩⟩, ⟨#[]⟩, ⟨0, 0, ⟨#[]⟩⟩, ⟨#[]⟩⟩, 7)
  else
   bif ((decide (v4.2 < 0)) || (decide (v4.2 > 1099511627776))) then
    (⟨0, 0, ⟨0, ⟨#[]⟩, ⟨#[]⟩⟩, ⟨#[]⟩, ⟨0, 0, ⟨#[]⟩⟩, ⟨#[]⟩⟩, 2)
   else
    (⟨v1.2, v4.2, ⟨v7.2, v10.2, v13.2⟩, v16.2, ⟨v19.2.kind, v19.2.n, v19.2.s⟩, v22.2⟩, 0)
def p27 (x0 : ByteArray) : Prop :=
 let v1 := m89 ⟨x0, 0, 0, true⟩
 (p89 ⟨x0, 0, 0, true⟩) ∧
 let v4 := m89 v1.1
 (p89 v1.1) ∧
 let v7 := m89 v4.1
 (p89 v4.1) ∧
 let v10 := m90 v7.1 (24 : Int)
 (p90 v7.1 (24 : Int)) ∧
 let v13 := m90 v10.1 (24 : Int)
 (p90 v10.1 (24 : Int)) ∧
 let v16 := m90 v13.1 (24 : Int)
 (p90 v13.1 (24 : Int)) ∧
 let v19 := m91 v16.1
 (p91 v16.1) ∧
 let v22 := m90 v19.1 (20000 : Int)
 p90 v19.1 (20000 : Int)
noncomputable def m96 (x0 : Int) : ByteArray :=
 let v2 : Int := arI .shl .u64 (IntKind.wrap .u64 x0) (1 : Int)
 let j1 : Int → ByteArray := fun v3 =>
  Sum.elim (fun r => r) (fun c0 =>
   (bytesOf (List.append c0.2 ([(IntKind.wrap .u8 c0.1)] : List Int))))
  (loopW (fun (c1 : Int × (List Int)) =>
   show Step (ByteArray) (Int × (List Int)) from
   bif (decide (c1.1 ≥ 128)) then
    .nxt ((arI .quo .u64 c1.1 (128 : Int)), (List.append c1.2 ([(IntKind.wrap .u8 ((IntKind.wrap .u8 (arI .rem .u64 c1.1 (128 : Int))) + (128 : Int)))] : List Int)))
   else
    .brk (c1.1, c1.2)) fuelW (v3, []) : ByteArray ⊕ (Int × (List Int)))
 bif (decide (x0 < 0)) then
  j1 (F1.den (.xn .u64) v2)
 else
  j1 v2
def p96 (x0 : Int) : Prop :=
 let v2 : Int := arI .shl .u64 (IntKind.wrap .u64 x0) (1 : Int)
 let j1 : Int → Prop := fun v3 =>
  let k0 : (Int × (List Int)) → Prop := fun c0 =>
   let v8 : List Int := ([(IntKind.wrap .u8 c0.1)] : List Int)
   List.length c0.2 + List.length v8 ≤ maxLen ∧ (List.length c0.2 + List.length v8) * 1 ≤ 140737488355328
  ∃ (I0 : (Int × (List Int)) → Prop) (u0 : (Int × (List Int)) → Nat), I0 (v3, []) ∧ u0 (v3, []) < fuelW ∧ ∀ (d0 : Int × (List Int)), I0 d0 → (
   ((decide (d0.1 ≥ 128)) = true → (
    let v11 : List Int := ([(IntKind.wrap .u8 ((IntKind.wrap .u8 (arI .rem .u64 d0.1 (128 : Int))) + (128 : Int)))] : List Int)
    (List.length d0.2 + List.length v11 ≤ maxLen ∧ (List.length d0.2 + List.length v11) * 1 ≤ 140737488355328) ∧
    I0 ((arI .quo .u64 d0.1 (128 : Int)), (List.append d0.2 v11)) ∧ u0 ((arI .quo .u64 d0.1 (128 : Int)), (List.append d0.2 v11)) < u0 d0)) ∧ ((decide (d0.1 ≥ 128)) = false → (
    k0 (d0.1, d0.2))))
 ((decide (x0 < 0)) = true → (
  j1 (F1.den (.xn .u64) v2))) ∧ ((decide (x0 < 0)) = false → (
  j1 v2))
noncomputable def m97 (x0 : ByteArray) : ByteArray :=
 (ByteArray.append (m96 (ByteArray.size x0 : Int)) x0)
def p97 (x0 : ByteArray) : Prop :=
 let v1 : Int := (ByteArray.size x0 : Int)
 let v2 := m96 v1
 (p96 v1) ∧
 ByteArray.size v2 + ByteArray.size x0 ≤ 9223372036854775807
noncomputable def m98 (x0 : Val) : ByteArray :=
 let j1 : Int → Int → ByteArray → ByteArray := fun v3 v4 v5 =>
  bif (v3 == 0) then
   (m96 (0 : Int))
  else
   bif (v3 == 4) then
    (ByteArray.append (m96 v3) (m97 v5))
   else
    (ByteArray.append (m96 v3) (m96 v4))
 bif ((m50 x0) != 0) then
  j1 (0 : Int) (0 : Int) (⟨#[]⟩ : ByteArray)
 else
  j1 x0.kind x0.n x0.s
def p98 (x0 : Val) : Prop :=
 let j1 : Int → Int → ByteArray → Prop := fun v3 v4 v5 =>
  ((v3 == 0) = true → (
   p96 (0 : Int))) ∧ ((v3 == 0) = false → (
   ((v3 == 4) = true → (
    let v8 := m96 v3
    (p96 v3) ∧
    let v9 := m97 v5
    (p97 v5) ∧
    ByteArray.size v8 + ByteArray.size v9 ≤ 9223372036854775807)) ∧ ((v3 == 4) = false → (
    let v8 := m96 v3
    (p96 v3) ∧
    let v9 := m96 v4
    (p96 v4) ∧
    ByteArray.size v8 + ByteArray.size v9 ≤ 9223372036854775807))))
 (((m50 x0) != 0) = true → (
  j1 (0 : Int) (0 : Int) (⟨#[]⟩ : ByteArray))) ∧ (((m50 x0) != 0) = false → (
  j1 x0.kind x0.n x0.s))
noncomputable def m29 (x0 : Req) : ByteArray :=
 let v13 := ByteArray.append (ByteArray.append (ByteArray.append (ByteArray.append (ByteArray.append (ByteArray.append (m96 x0.kind) (m96 x0.nonce)) (m96 x0.key.dev)) (m97 x0.key.cluster)) (m97 x0.key.attr)) (m97 x0.name)) (m98 ⟨x0.value.kind, x0.value.n, x0.value.s⟩)
 (ByteArray.append v13 (m97 x0.text))
def p29 (x0 : Req) : Prop :=
 let v1 := m96 x0.kind
 (p96 x0.kind) ∧
 let v2 := m96 x0.nonce
 (p96 x0.nonce) ∧
 let v3 := ByteArray.append v1 v2
 (ByteArray.size v1 + ByteArray.size v2 ≤ 9223372036854775807) ∧
 let v4 := m96 x0.key.dev
 (p96 x0.key.dev) ∧
 let v5 := ByteArray.append v3 v4
 (ByteArray.size v3 + ByteArray.size v4 ≤ 9223372036854775807) ∧
 let v6 := m97 x0.key.cluster
 (p97 x0.key.cluster) ∧
 let v7 := ByteArray.append v5 v6
 (ByteArray.size v5 + ByteArray.size v6 ≤ 9223372036854775807) ∧
 let v8 := m97 x0.key.attr
 (p97 x0.key.attr) ∧
 let v9 := ByteArray.append v7 v8
 (ByteArray.size v7 + ByteArray.size v8 ≤ 9223372036854775807) ∧
 let v10 := m97 x0.name
 (p97 x0.name) ∧
 let v11 := ByteArray.append v9 v10
 (ByteArray.size v9 + ByteArray.size v10 ≤ 9223372036854775807) ∧
 let v12 := m98 ⟨x0.value.kind, x0.value.n, x0.value.s⟩
 (p98 ⟨x0.value.kind, x0.value.n, x0.value.s⟩) ∧
 let v13 := ByteArray.append v11 v12
 (ByteArray.size v11 + ByteArray.size v12 ≤ 9223372036854775807) ∧
 let v14 := m97 x0.text
 (p97 x0.text) ∧
 ByteArray.size v13 + ByteArray.size v14 ≤ 9223372036854775807
noncomputable def m47 (x0 : ActV) : ActV :=
 let j2 : Int → Int → Int → ByteArray → ByteArray → Int → Int → ByteArray → Int → ByteArray → ByteArray → ByteArray → Int → Int → Int → ByteArray → ByteArray → ByteArray → Int → Int → ByteArray → ByteArray → ActV := fun v3 v4 v5 v6 v7 v8 v9 v10 v11 v12 v13 v14 v15 v16 v17 v18 v19 v20 v21 v22 v23 v24 =>
  ⟨x0.kind, v3, v4, ⟨v5, v6, v7⟩, ⟨v8, v9, v10⟩, ⟨v11, v12, v13⟩, ⟨v14, ⟨v15, v16, ⟨v17, v18, v19⟩, v20, ⟨v21, v22, v23⟩, v24⟩⟩⟩
 let j1 : Bool → ActV := fun v1 =>
  bif v1 then
   j2 (0 : Int) (0 : Int) x0.key.dev x0.key.cluster x0.key.attr x0.value.kind x0.value.n x0.value.s (0 : Int) (⟨#[]⟩ : ByteArray) (⟨#[]⟩ : ByteArray) (⟨#[]⟩ : ByteArray) (0 : Int) (0 : Int) (0 : Int) (⟨#[]⟩ : ByteArray) (⟨#[]⟩ : ByteArray) (⟨#[]⟩ : ByteArray) (0 : Int) (0 : Int) (⟨#[]⟩ : ByteArray) (⟨#[]⟩ : ByteArray)
  else
   bif (x0.kind == 3) then
    j2 (0 : Int) (0 : Int) (0 : Int) (⟨#[]⟩ : ByteArray) (⟨#[]⟩ : ByteArray) (0 : Int) (0 : Int) (⟨#[]⟩ : ByteArray) x0.event.dev x0.event.cluster x0.event.name (⟨#[]⟩ : ByteArray) (0 : Int) (0 : Int) (0 : Int) (⟨#[]⟩ : ByteArray) (⟨#[]⟩ : ByteArray) (⟨#[]⟩ : ByteArray) (0 : Int) (0 : Int) (⟨#[]⟩ : ByteArray) (⟨#[]⟩ : ByteArray)
   else
    let j1 : Bool → ActV := fun v4 =>
     bif v4 then
      j2 x0.n x0.m (0 : Int) (⟨#[]⟩ : ByteArray) (⟨#[]⟩ : ByteArray) (0 : Int) (0 : Int) (⟨#[]⟩ : ByteArray) (0 : Int) (⟨#[]⟩ : ByteArray) (⟨#[]⟩ : ByteArray) (⟨#[]⟩ : ByteArray) (0 : Int) (0 : Int) (0 : Int) (⟨#[]⟩ : ByteArray) (⟨#[]⟩ : ByteArray) (⟨#[]⟩ : ByteArray) (0 : Int) (0 : Int) (⟨#[]⟩ : ByteArray) (⟨#[]⟩ : ByteArray)
     else
      bif (x0.kind == 12) then
       j2 (0 : Int) (0 : Int) (0 : Int) (⟨#[]⟩ : ByteArray) (⟨#[]⟩ : ByteArray) (0 : Int) (0 : Int) (⟨#[]⟩ : ByteArray) (0 : Int) (⟨#[]⟩ : ByteArray) (⟨#[]⟩ : ByteArray) x0.asked.token x0.asked.request.kind x0.asked.request.nonce x0.asked.request.key.dev x0.asked.request.key.cluster x0.asked.request.key.attr x0.asked.request.name x0.asked.request.value.kind x0.asked.request.value.n x0.asked.request.value.s x0.asked.request.text
      else
       bif (x0.kind == 14) then
        j2 (0 : Int) (0 : Int) (0 : Int) (⟨#[]⟩ : ByteArray) (⟨#[]⟩ : ByteArray) (0 : Int) (0 : Int) (⟨#[]⟩ : ByteArray) (0 : Int) (⟨#[]⟩ : ByteArray) (⟨#[]⟩ : ByteArray) (⟨#[]⟩ : ByteArray) (0 : Int) (0 : Int) (0 : Int) (⟨#[]⟩ : ByteArray) (⟨#[]⟩ : ByteArray) (⟨#[]⟩ : ByteArray) (0 : Int) (0 : Int) (⟨#[]⟩ : ByteArray) (⟨#[]⟩ : ByteArray)
       else
        j2 x0.n (0 : Int) (0 : Int) (⟨#[]⟩ : ByteArray) (⟨#[]⟩ : ByteArray) (0 : Int) (0 : Int) (⟨#[]⟩ : ByteArray) (0 : Int) (⟨#[]⟩ : ByteArray) (⟨#[]⟩ : ByteArray) (⟨#[]⟩ : ByteArray) (0 : Int) (0 : Int) (0 : Int) (⟨#[]⟩ : ByteArray) (⟨#[]⟩ : ByteArray) (⟨#[]⟩ : ByteArray) (0 : Int) (0 : Int) (⟨#[]⟩ : ByteArray) (⟨#[]⟩ : ByteArray)
    let v4 := x0.kind == 8
    bif v4 then
     j1 v4
    else
     j1 (x0.kind == 9)
 let v1 := x0.kind == 2
 bif v1 then
  j1 v1
 else
  j1 (x0.kind == 13)
noncomputable def m48  : (List ByteArray) :=
 let v0 : List ByteArray := ([⟨#[116, 105, 99, 107]⟩, ⟨#[115, 101, 110, 115, 101]⟩, ⟨#[101, 118, 101, 110, 116]⟩, ⟨#[110, 111, 105, 115, 101]⟩, ⟨#[113, 117, 105, 101, 116]⟩, ⟨#[111, 102, 102]⟩, ⟨#[111, 110]⟩, ⟨#[99, 117, 116]⟩, ⟨#[106, 111, 105, 110]⟩, ⟨#[99, 114, 97, 115, 104]⟩, ⟨#[99, 108, 111, 99, 107]⟩, ⟨#[97, 115, 107]⟩, ⟨#[101, 110, 101, 114, 103, 121]⟩, ⟨#[109, 111, 118, 101]⟩, ⟨#[108, 111, 115, 101]⟩, ⟨#[116, 119, 105, 99, 101]⟩] : List ByteArray)
 v0
def m52 (n : Int) : ByteArray := decB n
def p52 (n : Int) : Prop := -9223372036854775808 ≤ n ∧ n ≤ 9223372036854775807
noncomputable def m78 (x0 : ByteArray) : Bool :=
 let v3 : Int := (ByteArray.size x0 : Int)
 bif ((decide ((ByteArray.size x0 : Int) < 1)) || (decide (v3 > 24))) then
  false
 else
  Sum.elim (fun r => r) (fun c0 =>
   true)
  (loopS (fun (i6 : Nat) (c1 : Unit) =>
   show Step (Bool) (Unit) from
   let v8 : Int := byteI x0 (i6 : Int)
   bif ((!((decide (v8 ≥ 97)) && (decide (v8 ≤ 122)))) && (((i6 : Int) == 0) || (((v8 != 95) && (v8 != 45)) && ((decide (v8 < 48)) || (decide (v8 > 57)))))) then
    .ret false
   else
    .nxt ()) 0 (Int.toNat v3) () : Bool ⊕ (Unit))
def p78 (x0 : ByteArray) : Prop :=
 let v3 : Int := (ByteArray.size x0 : Int)
 (((decide ((ByteArray.size x0 : Int) < 1)) || (decide (v3 > 24))) = false → (
  0 ≤ v3 ∧ v3 < (9223372036854775808 : Int)))
noncomputable def m49 (x0 : Int) (x1 : ByteArray) (x2 : ByteArray) : ByteArray × Int :=
 bif ((decide (x0 < 1)) || (decide (x0 > 250))) then
  (⟨#[]⟩, 2)
 else
  let v7 := !(m78 x1)
  let j1 : Bool → ByteArray × Int := fun v8 =>
   bif (v7 || (!v8)) then
    (⟨#[]⟩, 10)
   else
    ((ByteArray.append (ByteArray.append (ByteArray.append (ByteArray.append (m52 x0) (⟨#[46]⟩ : ByteArray)) x1) (⟨#[46]⟩ : ByteArray)) x2), 0)
  bif v7 then
   j1 false
  else
   j1 (m78 x2)
def p49 (x0 : Int) (x1 : ByteArray) (x2 : ByteArray) : Prop :=
 (((decide (x0 < 1)) || (decide (x0 > 250))) = false → (
  (p78 x1) ∧
  let v7 := !(m78 x1)
  let j1 : Bool → Prop := fun v8 =>
   ((v7 || (!v8)) = false → (
    let v11 := m52 x0
    (p52 x0) ∧
    let v12 := ByteArray.append v11 (⟨#[46]⟩ : ByteArray)
    (ByteArray.size v11 + ByteArray.size (⟨#[46]⟩ : ByteArray) ≤ 9223372036854775807) ∧
    let v13 := ByteArray.append v12 x1
    (ByteArray.size v12 + ByteArray.size x1 ≤ 9223372036854775807) ∧
    let v14 := ByteArray.append v13 (⟨#[46]⟩ : ByteArray)
    (ByteArray.size v13 + ByteArray.size (⟨#[46]⟩ : ByteArray) ≤ 9223372036854775807) ∧
    ByteArray.size v14 + ByteArray.size x2 ≤ 9223372036854775807))
  (v7 = true → (
   j1 false)) ∧ (v7 = false → (
   (p78 x2) ∧
   j1 (m78 x2)))))
noncomputable def m196 (x0 : Int) : Int :=
 (byteI (⟨#[48, 49, 50, 51, 52, 53, 54, 55, 56, 57, 97, 98, 99, 100, 101, 102]⟩ : ByteArray) (arI .rem .u8 x0 (16 : Int)))
def p196 (x0 : Int) : Prop :=
 let v1 : Int := arI .rem .u8 x0 (16 : Int)
 0 ≤ v1 ∧ v1 < (ByteArray.size (⟨#[48, 49, 50, 51, 52, 53, 54, 55, 56, 57, 97, 98, 99, 100, 101, 102]⟩ : ByteArray) : Int)
noncomputable def m124 (x0 : ByteArray) : ByteArray :=
 let v2 : Int := (ByteArray.size x0 : Int)
 Sum.elim (fun r => r) (fun c0 =>
  (bytesOf (List.append c0 ([34] : List Int))))
 (loopS (fun (i4 : Nat) (c1 : (List Int)) =>
  show Step (ByteArray) ((List Int)) from
  let j1 : (List Int) → Step (ByteArray) ((List Int)) := fun v12 =>
   .nxt v12
  let v6 : Int := byteI x0 (i4 : Int)
  bif ((v6 == 34) || (v6 == 92)) then
   j1 (List.append c1 ([92, v6] : List Int))
  else
   bif ((decide (v6 < 32)) || (decide (v6 > 126))) then
    j1 (List.append c1 ([92, 120, (m196 (arI .quo .u8 v6 (16 : Int))), (m196 v6)] : List Int))
   else
    j1 (List.append c1 ([v6] : List Int))) 0 (Int.toNat v2) ([34] : List Int) : ByteArray ⊕ ((List Int)))
def p124 (x0 : ByteArray) : Prop :=
 let v2 : Int := (ByteArray.size x0 : Int)
 (0 ≤ v2 ∧ v2 < (9223372036854775808 : Int)) ∧
 let k0 : (List Int) → Prop := fun c0 =>
  let v4 : List Int := ([34] : List Int)
  List.length c0 + List.length v4 ≤ maxLen ∧ (List.length c0 + List.length v4) * 1 ≤ 140737488355328
 ∃ I0 : Nat → ((List Int)) → Prop, I0 0 ([34] : List Int) ∧ (∀ (i4 : Nat) (d0 : (List Int)), i4 < Int.toNat v2 → I0 i4 d0 → (
  let j1 : (List Int) → Prop := fun v12 =>
   I0 (i4 + 1) v12
  let v6 : Int := byteI x0 (i4 : Int)
  (((v6 == 34) || (v6 == 92)) = true → (
   let v10 : List Int := ([92, v6] : List Int)
   (List.length d0 + List.length v10 ≤ maxLen ∧ (List.length d0 + List.length v10) * 1 ≤ 140737488355328) ∧
   j1 (List.append d0 v10))) ∧ (((v6 == 34) || (v6 == 92)) = false → (
   (((decide (v6 < 32)) || (decide (v6 > 126))) = true → (
    let v13 : Int := arI .quo .u8 v6 (16 : Int)
    (p196 v13) ∧
    (p196 v6) ∧
    let v16 : List Int := ([92, 120, (m196 v13), (m196 v6)] : List Int)
    (List.length d0 + List.length v16 ≤ maxLen ∧ (List.length d0 + List.length v16) * 1 ≤ 140737488355328) ∧
    j1 (List.append d0 v16))) ∧ (((decide (v6 < 32)) || (decide (v6 > 126))) = false → (
    let v13 : List Int := ([v6] : List Int)
    (List.length d0 + List.length v13 ≤ maxLen ∧ (List.length d0 + List.length v13) * 1 ≤ 140737488355328) ∧
    j1 (List.append d0 v13))))))) ∧ ∀ c0, I0 (Int.toNat v2) c0 → k0 c0
noncomputable def m51 (x0 : Val) : ByteArray :=
 bif ((m50 x0) != 0) then
  ⟨#[]⟩
 else
  bif (x0.kind == 0) then
   ⟨#[110, 111, 110, 101]⟩
  else
   bif (x0.kind == 1) then
    bif (x0.n == 1) then
     ⟨#[116, 114, 117, 101]⟩
    else
     ⟨#[102, 97, 108, 115, 101]⟩
   else
    bif (x0.kind == 2) then
     (m52 x0.n)
    else
     bif (x0.kind == 3) then
      (ByteArray.append (⟨#[35]⟩ : ByteArray) (m52 x0.n))
     else
      (m124 x0.s)
def p51 (x0 : Val) : Prop :=
 (((m50 x0) != 0) = false → (
  ((x0.kind == 0) = false → (
   ((x0.kind == 1) = false → (
    ((x0.kind == 2) = true → (
     p52 x0.n)) ∧ ((x0.kind == 2) = false → (
     ((x0.kind == 3) = true → (
      let v7 := m52 x0.n
      (p52 x0.n) ∧
      ByteArray.size (⟨#[35]⟩ : ByteArray) + ByteArray.size v7 ≤ 9223372036854775807)) ∧ ((x0.kind == 3) = false → (
      p124 x0.s))))))))))
noncomputable def m53 (x0 : ByteArray) : Bool :=
 let v3 : Int := (ByteArray.size x0 : Int)
 bif ((decide ((ByteArray.size x0 : Int) < 1)) || (decide (v3 > 1000))) then
  false
 else
  Sum.elim (fun r => r) (fun c0 =>
   true)
  (loopS (fun (i6 : Nat) (c1 : Unit) =>
   show Step (Bool) (Unit) from
   bif ((decide ((byteI x0 (i6 : Int)) < 33)) || (decide ((byteI x0 (i6 : Int)) > 126))) then
    .ret false
   else
    .nxt ()) 0 (Int.toNat v3) () : Bool ⊕ (Unit))
def p53 (x0 : ByteArray) : Prop :=
 let v3 : Int := (ByteArray.size x0 : Int)
 (((decide ((ByteArray.size x0 : Int) < 1)) || (decide (v3 > 1000))) = false → (
  0 ≤ v3 ∧ v3 < (9223372036854775808 : Int)))
noncomputable def m54 (x0 : ByteArray) : ByteArray :=
 let v1 : Int := (ByteArray.size x0 : Int)
 Sum.elim (fun r => r) (fun c0 =>
  (bytesOf c0))
 (loopS (fun (i3 : Nat) (c1 : (List Int)) =>
  show Step (ByteArray) ((List Int)) from
  let v11 : List Int := ([(byteI (⟨#[48, 49, 50, 51, 52, 53, 54, 55, 56, 57, 97, 98, 99, 100, 101, 102]⟩ : ByteArray) (arI .quo .u8 (byteI x0 (i3 : Int)) (16 : Int))), (byteI (⟨#[48, 49, 50, 51, 52, 53, 54, 55, 56, 57, 97, 98, 99, 100, 101, 102]⟩ : ByteArray) (arI .rem .u8 (byteI x0 (i3 : Int)) (16 : Int)))] : List Int)
  .nxt (List.append c1 v11)) 0 (Int.toNat v1) [] : ByteArray ⊕ ((List Int)))
def p54 (x0 : ByteArray) : Prop :=
 let v1 : Int := (ByteArray.size x0 : Int)
 (0 ≤ v1 ∧ v1 < (9223372036854775808 : Int)) ∧
 ∃ I0 : Nat → ((List Int)) → Prop, I0 0 [] ∧ ∀ (i3 : Nat) (d0 : (List Int)), i3 < Int.toNat v1 → I0 i3 d0 → (
  let v6 : Int := arI .quo .u8 (byteI x0 (i3 : Int)) (16 : Int)
  (0 ≤ v6 ∧ v6 < (ByteArray.size (⟨#[48, 49, 50, 51, 52, 53, 54, 55, 56, 57, 97, 98, 99, 100, 101, 102]⟩ : ByteArray) : Int)) ∧
  let v9 : Int := arI .rem .u8 (byteI x0 (i3 : Int)) (16 : Int)
  (0 ≤ v9 ∧ v9 < (ByteArray.size (⟨#[48, 49, 50, 51, 52, 53, 54, 55, 56, 57, 97, 98, 99, 100, 101, 102]⟩ : ByteArray) : Int)) ∧
  let v11 : List Int := ([(byteI (⟨#[48, 49, 50, 51, 52, 53, 54, 55, 56, 57, 97, 98, 99, 100, 101, 102]⟩ : ByteArray) v6), (byteI (⟨#[48, 49, 50, 51, 52, 53, 54, 55, 56, 57, 97, 98, 99, 100, 101, 102]⟩ : ByteArray) v9)] : List Int)
  (List.length d0 + List.length v11 ≤ maxLen ∧ (List.length d0 + List.length v11) * 1 ≤ 140737488355328) ∧
  I0 (i3 + 1) (List.append d0 v11))
noncomputable def m14 (x0 : ActV) : ByteArray × Int :=
 bif ((decide (x0.kind < 1)) || (decide (x0.kind > 16))) then
  (⟨#[]⟩, 7)
 else
  let v4 := m47 x0
  let v5 := !(bif v4.kind == x0.kind then bif v4.n == x0.n then bif v4.m == x0.m then bif v4.key.dev == x0.key.dev then bif beqS v4.key.cluster x0.key.cluster then bif beqS v4.key.attr x0.key.attr then bif v4.value.kind == x0.value.kind then bif v4.value.n == x0.value.n then bif beqS v4.value.s x0.value.s then bif v4.event.dev == x0.event.dev then bif beqS v4.event.cluster x0.event.cluster then bif beqS v4.event.name x0.event.name then bif beqS v4.asked.token x0.asked.token then bif v4.asked.request.kind == x0.asked.request.kind then bif v4.asked.request.nonce == x0.asked.request.nonce then bif v4.asked.request.key.dev == x0.asked.request.key.dev then bif beqS v4.asked.request.key.cluster x0.asked.request.key.cluster then bif beqS v4.asked.request.key.attr x0.asked.request.key.attr then bif beqS v4.asked.request.name x0.asked.request.name then bif v4.asked.request.value.kind == x0.asked.request.value.kind then bif v4.asked.request.value.n == x0.asked.request.value.n then bif beqS v4.asked.request.value.s x0.asked.request.value.s then beqS v4.asked.request.text x0.asked.request.text else false else false else false else false else false else false else false else false else false else false else false else false else false else false else false else false else false else false else false else false else false else false)
  bif v5 then
   (⟨#[]⟩, 1)
  else
   let v8 : ByteArray := List.getD (m48 ) (Int.toNat (IntKind.wrap .i64 (x0.kind - (1 : Int)))) (dT .str)
   let j1 : Int → ByteArray × Int := fun v9 =>
    bif ((((decide (x0.n < v9)) || (decide (x0.n > 1099511627776))) || (decide (x0.m < 0))) || (decide (x0.m > 1099511627776))) then
     (⟨#[]⟩, 2)
    else
     let j1 : Bool → ByteArray × Int := fun v18 =>
      bif v18 then
       let v20 := m49 x0.key.dev x0.key.cluster x0.key.attr
       bif (v20.2 != 0) then
        (⟨#[]⟩, v20.2)
       else
        let v24 := m50 ⟨x0.value.kind, x0.value.n, x0.value.s⟩
        bif (v24 != 0) then
         (⟨#[]⟩, v24)
        else
         bif (x0.value.kind == 0) then
          (⟨#[]⟩, 4)
         else
          ((ByteArray.append (ByteArray.append (ByteArray.append (ByteArray.append v8 (⟨#[32]⟩ : ByteArray)) v20.1) (⟨#[32]⟩ : ByteArray)) (m51 ⟨x0.value.kind, x0.value.n, x0.value.s⟩)), 0)
      else
       bif (x0.kind == 3) then
        let v21 := m49 x0.event.dev x0.event.cluster x0.event.name
        bif (v21.2 != 0) then
         (⟨#[]⟩, v21.2)
        else
         ((ByteArray.append (ByteArray.append v8 (⟨#[32]⟩ : ByteArray)) v21.1), 0)
       else
        let j1 : Bool → ByteArray × Int := fun v21 =>
         bif v21 then
          ((ByteArray.append (ByteArray.append (ByteArray.append (ByteArray.append v8 (⟨#[32]⟩ : ByteArray)) (m52 x0.n)) (⟨#[32]⟩ : ByteArray)) (m52 x0.m)), 0)
         else
          bif (x0.kind == 12) then
           let v24 := m29 ⟨x0.asked.request.kind, x0.asked.request.nonce, ⟨x0.asked.request.key.dev, x0.asked.request.key.cluster, x0.asked.request.key.attr⟩, x0.asked.request.name, ⟨x0.asked.request.value.kind, x0.asked.request.value.n, x0.asked.request.value.s⟩, x0.asked.request.text⟩
           let v25 := m27 v24
           let v32 := !(bif v25.1.kind == x0.asked.request.kind then bif v25.1.nonce == x0.asked.request.nonce then bif v25.1.key.dev == x0.asked.request.key.dev then bif beqS v25.1.key.cluster x0.asked.request.key.cluster then bif beqS v25.1.key.attr x0.asked.request.key.attr then bif beqS v25.1.name x0.asked.request.name then bif v25.1.value.kind == x0.asked.request.value.kind then bif v25.1.value.n == x0.asked.request.value.n then bif beqS v25.1.value.s x0.asked.request.value.s then beqS v25.1.text x0.asked.request.text else false else false else false else false else false else false else false else false else false)
           bif (((!(m53 x0.asked.token)) || (v25.2 != 0)) || v32) then
            (⟨#[]⟩, 4)
           else
            ((ByteArray.append (ByteArray.append (ByteArray.append (ByteArray.append v8 (⟨#[32]⟩ : ByteArray)) x0.asked.token) (⟨#[32]⟩ : ByteArray)) (m54 v24)), 0)
          else
           bif (x0.kind == 14) then
            (v8, 0)
           else
            ((ByteArray.append (ByteArray.append v8 (⟨#[32]⟩ : ByteArray)) (m52 x0.n)), 0)
        let v21 := x0.kind == 8
        bif v21 then
         j1 v21
        else
         j1 (x0.kind == 9)
     let v18 := x0.kind == 2
     bif v18 then
      j1 v18
     else
      j1 (x0.kind == 13)
   bif (x0.kind == 11) then
    j1 ((-1) : Int)
   else
    j1 (0 : Int)
def p14 (x0 : ActV) : Prop :=
 (((decide (x0.kind < 1)) || (decide (x0.kind > 16))) = false → (
  let v4 := m47 x0
  let v5 := !(bif v4.kind == x0.kind then bif v4.n == x0.n then bif v4.m == x0.m then bif v4.key.dev == x0.key.dev then bif beqS v4.key.cluster x0.key.cluster then bif beqS v4.key.attr x0.key.attr then bif v4.value.kind == x0.value.kind then bif v4.value.n == x0.value.n then bif beqS v4.value.s x0.value.s then bif v4.event.dev == x0.event.dev then bif beqS v4.event.cluster x0.event.cluster then bif beqS v4.event.name x0.event.name then bif beqS v4.asked.token x0.asked.token then bif v4.asked.request.kind == x0.asked.request.kind then bif v4.asked.request.nonce == x0.asked.request.nonce then bif v4.asked.request.key.dev == x0.asked.request.key.dev then bif beqS v4.asked.request.key.cluster x0.asked.request.key.cluster then bif beqS v4.asked.request.key.attr x0.asked.request.key.attr then bif beqS v4.asked.request.name x0.asked.request.name then bif v4.asked.request.value.kind == x0.asked.request.value.kind then bif v4.asked.request.value.n == x0.asked.request.value.n then bif beqS v4.asked.request.value.s x0.asked.request.value.s then beqS v4.asked.request.text x0.asked.request.text else false else false else false else false else false else false else false else false else false else false else false else false else false else false else false else false else false else false else false else false else false else false)
  (v5 = false → (
   let v6 : Int := IntKind.wrap .i64 (x0.kind - (1 : Int))
   let v7 := m48 
   let v8 : ByteArray := List.getD v7 (Int.toNat v6) (dT .str)
   (0 ≤ v6 ∧ v6 < (List.length v7 : Int)) ∧
   let j1 : Int → Prop := fun v9 =>
    (((((decide (x0.n < v9)) || (decide (x0.n > 1099511627776))) || (decide (x0.m < 0))) || (decide (x0.m > 1099511627776))) = false → (
     let j1 : Bool → Prop := fun v18 =>
      (v18 = true → (
       let v20 := m49 x0.key.dev x0.key.cluster x0.key.attr
       (p49 x0.key.dev x0.key.cluster x0.key.attr) ∧
       ((v20.2 != 0) = false → (
        let v24 := m50 ⟨x0.value.kind, x0.value.n, x0.value.s⟩
        ((v24 != 0) = false → (
         ((x0.value.kind == 0) = false → (
          let v27 := ByteArray.append v8 (⟨#[32]⟩ : ByteArray)
          (ByteArray.size v8 + ByteArray.size (⟨#[32]⟩ : ByteArray) ≤ 9223372036854775807) ∧
          let v28 := ByteArray.append v27 v20.1
          (ByteArray.size v27 + ByteArray.size v20.1 ≤ 9223372036854775807) ∧
          let v29 := ByteArray.append v28 (⟨#[32]⟩ : ByteArray)
          (ByteArray.size v28 + ByteArray.size (⟨#[32]⟩ : ByteArray) ≤ 9223372036854775807) ∧
          let v30 := m51 ⟨x0.value.kind, x0.value.n, x0.value.s⟩
          (p51 ⟨x0.value.kind, x0.value.n, x0.value.s⟩) ∧
          ByteArray.size v29 + ByteArray.size v30 ≤ 9223372036854775807)))))))) ∧ (v18 = false → (
       ((x0.kind == 3) = true → (
        let v21 := m49 x0.event.dev x0.event.cluster x0.event.name
        (p49 x0.event.dev x0.event.cluster x0.event.name) ∧
        ((v21.2 != 0) = false → (
         let v25 := ByteArray.append v8 (⟨#[32]⟩ : ByteArray)
         (ByteArray.size v8 + ByteArray.size (⟨#[32]⟩ : ByteArray) ≤ 9223372036854775807) ∧
         ByteArray.size v25 + ByteArray.size v21.1 ≤ 9223372036854775807)))) ∧ ((x0.kind == 3) = false → (
        let j1 : Bool → Prop := fun v21 =>
         (v21 = true → (
          let v23 := ByteArray.append v8 (⟨#[32]⟩ : ByteArray)
          (ByteArray.size v8 + ByteArray.size (⟨#[32]⟩ : ByteArray) ≤ 9223372036854775807) ∧
          let v24 := m52 x0.n
          (p52 x0.n) ∧
          let v25 := ByteArray.append v23 v24
          (ByteArray.size v23 + ByteArray.size v24 ≤ 9223372036854775807) ∧
          let v26 := ByteArray.append v25 (⟨#[32]⟩ : ByteArray)
          (ByteArray.size v25 + ByteArray.size (⟨#[32]⟩ : ByteArray) ≤ 9223372036854775807) ∧
          let v27 := m52 x0.m
          (p52 x0.m) ∧
          ByteArray.size v26 + ByteArray.size v27 ≤ 9223372036854775807)) ∧ (v21 = false → (
          ((x0.kind == 12) = true → (
           let v24 := m29 ⟨x0.asked.request.kind, x0.asked.request.nonce, ⟨x0.asked.request.key.dev, x0.asked.request.key.cluster, x0.asked.request.key.attr⟩, x0.asked.request.name, ⟨x0.asked.request.value.kind, x0.asked.request.value.n, x0.asked.request.value.s⟩, x0.asked.request.text⟩
           (p29 ⟨x0.asked.request.kind, x0.asked.request.nonce, ⟨x0.asked.request.key.dev, x0.asked.request.key.cluster, x0.asked.request.key.attr⟩, x0.asked.request.name, ⟨x0.asked.request.value.kind, x0.asked.request.value.n, x0.asked.request.value.s⟩, x0.asked.request.text⟩) ∧
           let v25 := m27 v24
           (p27 v24) ∧
           (p53 x0.asked.token) ∧
           let v32 := !(bif v25.1.kind == x0.asked.request.kind then bif v25.1.nonce == x0.asked.request.nonce then bif v25.1.key.dev == x0.asked.request.key.dev then bif beqS v25.1.key.cluster x0.asked.request.key.cluster then bif beqS v25.1.key.attr x0.asked.request.key.attr then bif beqS v25.1.name x0.asked.request.name then bif v25.1.value.kind == x0.asked.request.value.kind then bif v25.1.value.n == x0.asked.request.value.n then bif beqS v25.1.value.s x0.asked.request.value.s then beqS v25.1.text x0.asked.request.text else false else false else false else false else false else false else false else false else false)
           ((((!(m53 x0.asked.token)) || (v25.2 != 0)) || v32) = false → (
            let v34 := ByteArray.append v8 (⟨#[32]⟩ : ByteArray)
            (ByteArray.size v8 + ByteArray.size (⟨#[32]⟩ : ByteArray) ≤ 9223372036854775807) ∧
            let v35 := ByteArray.append v34 x0.asked.token
            (ByteArray.size v34 + ByteArray.size x0.asked.token ≤ 9223372036854775807) ∧
            let v36 := ByteArray.append v35 (⟨#[32]⟩ : ByteArray)
            (ByteArray.size v35 + ByteArray.size (⟨#[32]⟩ : ByteArray) ≤ 9223372036854775807) ∧
            let v37 := m54 v24
            (p54 v24) ∧
            ByteArray.size v36 + ByteArray.size v37 ≤ 9223372036854775807)))) ∧ ((x0.kind == 12) = false → (
           ((x0.kind == 14) = false → (
            let v25 := ByteArray.append v8 (⟨#[32]⟩ : ByteArray)
            (ByteArray.size v8 + ByteArray.size (⟨#[32]⟩ : ByteArray) ≤ 9223372036854775807) ∧
            let v26 := m52 x0.n
            (p52 x0.n) ∧
            ByteArray.size v25 + ByteArray.size v26 ≤ 9223372036854775807))))))
        let v21 := x0.kind == 8
        (v21 = true → (
         j1 v21)) ∧ (v21 = false → (
         j1 (x0.kind == 9)))))))
     let v18 := x0.kind == 2
     (v18 = true → (
      j1 v18)) ∧ (v18 = false → (
      j1 (x0.kind == 13)))))
   ((x0.kind == 11) = true → (
    j1 ((-1) : Int))) ∧ ((x0.kind == 11) = false → (
    j1 (0 : Int)))))))
noncomputable def m204 (x0 : ByteArray) (x1 : Int) : Int :=
 (F2.den .ib x0 x1)
noncomputable def m200 (x0 : Int) : Int :=
 (F2.den (.mn .i64) (F2.den (.mx .i64) x0 ((-1099511627776) : Int)) (1099511627776 : Int))
noncomputable def m129 (x0 : ByteArray) : Int × Bool :=
 let v3 : Int := (ByteArray.size x0 : Int)
 bif (((ByteArray.size x0 : Int) == 0) || (decide (v3 > 14))) then
  (0, false)
 else
  Sum.elim (fun r => r) (fun c0 =>
   let j1 : Int → Int × Bool := fun v7 =>
    let v11 := (m200 v7) != v7
    let j1 : ByteArray → Int × Bool := fun v12 =>
     bif (v11 || (cmS .neq v12 x0)) then
      (0, false)
     else
      (v7, true)
    bif v11 then
     j1 (⟨#[]⟩ : ByteArray)
    else
     j1 (m46 v7)
   bif ((byteI x0 (0 : Int)) == 45) then
    j1 (IntKind.wrap .i64 (0 - c0))
   else
    j1 c0)
  (loopS (fun (i7 : Nat) (c1 : Int) =>
   show Step (Int × Bool) (Int) from
   let j1 : Int → Step (Int × Bool) (Int) := fun v9 =>
    .nxt v9
   let v9 : Int := byteI x0 (i7 : Int)
   bif ((decide (v9 ≥ 48)) && (decide (v9 ≤ 57))) then
    j1 (IntKind.wrap .i64 ((IntKind.wrap .i64 ((10 : Int) * c1)) + (IntKind.wrap .i64 (IntKind.wrap .u8 (v9 - (48 : Int))))))
   else
    bif ((decide ((i7 : Int) > 0)) || (v9 != 45)) then
     .ret (0, false)
    else
     j1 c1) 0 (Int.toNat v3) 0 : (Int × Bool) ⊕ (Int))
def p129 (x0 : ByteArray) : Prop :=
 let v3 : Int := (ByteArray.size x0 : Int)
 ((((ByteArray.size x0 : Int) == 0) || (decide (v3 > 14))) = false → (
  (0 ≤ v3 ∧ v3 < (9223372036854775808 : Int)) ∧
  let k0 : Int → Prop := fun c0 =>
   let j1 : Int → Prop := fun v7 =>
    let v11 := (m200 v7) != v7
    (v11 = false → (
     p46 v7))
   (0 ≤ (0 : Int) ∧ (0 : Int) < (ByteArray.size x0 : Int)) ∧
   (((byteI x0 (0 : Int)) == 45) = true → (
    j1 (IntKind.wrap .i64 (0 - c0)))) ∧ (((byteI x0 (0 : Int)) == 45) = false → (
    j1 c0))
  ∃ I0 : Nat → (Int) → Prop, I0 0 0 ∧ (∀ (i7 : Nat) (d0 : Int), i7 < Int.toNat v3 → I0 i7 d0 → (
   let j1 : Int → Prop := fun v9 =>
    I0 (i7 + 1) v9
   let v9 : Int := byteI x0 (i7 : Int)
   (((decide (v9 ≥ 48)) && (decide (v9 ≤ 57))) = true → (
    j1 (IntKind.wrap .i64 ((IntKind.wrap .i64 ((10 : Int) * d0)) + (IntKind.wrap .i64 (IntKind.wrap .u8 (v9 - (48 : Int)))))))) ∧ (((decide (v9 ≥ 48)) && (decide (v9 ≤ 57))) = false → (
    (((decide ((i7 : Int) > 0)) || (v9 != 45)) = false → (
     j1 d0)))))) ∧ ∀ c0, I0 (Int.toNat v3) c0 → k0 c0))
noncomputable def m135 (x0 : ByteArray) (x1 : Int) : Int :=
 (m204 x0 x1)
noncomputable def m309 (x0 : Int) : Int :=
 (m135 (⟨#[48, 49, 50, 51, 52, 53, 54, 55, 56, 57, 97, 98, 99, 100, 101, 102]⟩ : ByteArray) x0)
noncomputable def m290 (x0 : ByteArray) : Int × Int :=
 bif ((cmS .eql x0 (⟨#[]⟩ : ByteArray)) || ((byteI x0 (0 : Int)) == 34)) then
  (0, 0)
 else
  bif ((byteI x0 (0 : Int)) != 92) then
   bif (cmS .neq (m194 (byteI x0 (0 : Int))) (strV x0 none (some (1 : Int)))) then
    (0, 0)
   else
    ((byteI x0 (0 : Int)), 1)
  else
   let v7 : Int := (ByteArray.size x0 : Int)
   bif ((decide (v7 ≥ 2)) && (((byteI x0 (1 : Int)) == 34) || ((byteI x0 (1 : Int)) == 92))) then
    ((byteI x0 (1 : Int)), 2)
   else
    let v18 : Bool := (decide (v7 < 4)) || ((byteI x0 (1 : Int)) != 120)
    let j1 : Int → Int × Int := fun v20 =>
     let v22 : Bool := v18 || (decide (v20 < 0))
     let j1 : Int → Int × Int := fun v24 =>
      bif (v22 || (decide (v24 < 0))) then
       (0, 0)
      else
       let v33 : Int := IntKind.wrap .u8 (arI .or .i64 (arI .shl .i64 (m309 (byteI x0 (2 : Int))) (4 : Int)) (m309 (byteI x0 (3 : Int))))
       bif (cmS .neq (m194 v33) (strV x0 none (some (4 : Int)))) then
        (0, 0)
       else
        (v33, 4)
     bif v22 then
      j1 (0 : Int)
     else
      j1 (m309 (byteI x0 (3 : Int)))
    bif v18 then
     j1 (0 : Int)
    else
     j1 (m309 (byteI x0 (2 : Int)))
def p290 (x0 : ByteArray) : Prop :=
 let v1 := cmS .eql x0 (⟨#[]⟩ : ByteArray)
 (v1 = false → 0 ≤ (0 : Int) ∧ (0 : Int) < (ByteArray.size x0 : Int)) ∧
 ((v1 || ((byteI x0 (0 : Int)) == 34)) = false → (
  (0 ≤ (0 : Int) ∧ (0 : Int) < (ByteArray.size x0 : Int)) ∧
  (((byteI x0 (0 : Int)) != 92) = true → (
   let v7 : Int := byteI x0 (0 : Int)
   (0 ≤ (0 : Int) ∧ (0 : Int) < (ByteArray.size x0 : Int)) ∧
   (sbNeed (ByteArray.size x0) none (some (1 : Int))) ∧
   (p194 v7) ∧
   ((cmS .neq (m194 v7) (strV x0 none (some (1 : Int)))) = false → (
    0 ≤ (0 : Int) ∧ (0 : Int) < (ByteArray.size x0 : Int))))) ∧ (((byteI x0 (0 : Int)) != 92) = false → (
   let v7 : Int := (ByteArray.size x0 : Int)
   let v8 := decide (v7 ≥ 2)
   (v8 = true → 0 ≤ (1 : Int) ∧ (1 : Int) < (ByteArray.size x0 : Int)) ∧
   let v10 := (byteI x0 (1 : Int)) == 34
   (v8 = true → v10 = false → 0 ≤ (1 : Int) ∧ (1 : Int) < (ByteArray.size x0 : Int)) ∧
   ((v8 && (v10 || ((byteI x0 (1 : Int)) == 92))) = true → (
    0 ≤ (1 : Int) ∧ (1 : Int) < (ByteArray.size x0 : Int))) ∧ ((v8 && (v10 || ((byteI x0 (1 : Int)) == 92))) = false → (
    let v15 := decide (v7 < 4)
    (v15 = false → 0 ≤ (1 : Int) ∧ (1 : Int) < (ByteArray.size x0 : Int)) ∧
    let v18 : Bool := v15 || ((byteI x0 (1 : Int)) != 120)
    (v18 = false → 0 ≤ (2 : Int) ∧ (2 : Int) < (ByteArray.size x0 : Int)) ∧
    let j1 : Int → Prop := fun v20 =>
     let v22 : Bool := v18 || (decide (v20 < 0))
     (v22 = false → 0 ≤ (3 : Int) ∧ (3 : Int) < (ByteArray.size x0 : Int)) ∧
     let j1 : Int → Prop := fun v24 =>
      ((v22 || (decide (v24 < 0))) = false → (
       (0 ≤ (2 : Int) ∧ (2 : Int) < (ByteArray.size x0 : Int)) ∧
       (0 ≤ (3 : Int) ∧ (3 : Int) < (ByteArray.size x0 : Int)) ∧
       let v33 : Int := IntKind.wrap .u8 (arI .or .i64 (arI .shl .i64 (m309 (byteI x0 (2 : Int))) (4 : Int)) (m309 (byteI x0 (3 : Int))))
       (sbNeed (ByteArray.size x0) none (some (4 : Int))) ∧
       p194 v33))
     (v22 = true → (
      j1 (0 : Int))) ∧ (v22 = false → (
      j1 (m309 (byteI x0 (3 : Int)))))
    (v18 = true → (
     j1 (0 : Int))) ∧ (v18 = false → (
     j1 (m309 (byteI x0 (2 : Int)))))))))))
noncomputable def m254 (x0 : ByteArray) : ByteArray × Int :=
 bif ((cmS .eql x0 (⟨#[]⟩ : ByteArray)) || ((byteI x0 (0 : Int)) != 34)) then
  (⟨#[]⟩, 0)
 else
  Sum.elim (fun r => r) (fun c0 =>
   bif (decide (c0.1 ≥ (ByteArray.size x0 : Int))) then
    (⟨#[]⟩, 0)
   else
    ((bytesOf c0.2.1), (IntKind.wrap .i64 (c0.1 + (1 : Int)))))
  (loopW (fun (c1 : Int × (List Int) × Bool) =>
   show Step (ByteArray × Int) (Int × (List Int) × Bool) from
   bif ((decide (c1.1 < (ByteArray.size x0 : Int))) && ((byteI x0 c1.1) != 34)) then
    let v14 := m290 (strV x0 (some c1.1) none)
    bif (v14.2 == 0) then
     .ret (⟨#[]⟩, 0)
    else
     let j1 : Bool → Step (ByteArray × Int) (Int × (List Int) × Bool) := fun v18 =>
      .nxt ((IntKind.wrap .i64 (c1.1 + v14.2)), (List.append c1.2.1 ([v14.1] : List Int)), v18)
     bif !c1.2.2 then
      j1 true
     else
      j1 c1.2.2
   else
    .brk (c1.1, c1.2.1, c1.2.2)) fuelW (1, [], false) : (ByteArray × Int) ⊕ (Int × (List Int) × Bool))
def p254 (x0 : ByteArray) : Prop :=
 let v1 := cmS .eql x0 (⟨#[]⟩ : ByteArray)
 (v1 = false → 0 ≤ (0 : Int) ∧ (0 : Int) < (ByteArray.size x0 : Int)) ∧
 ((v1 || ((byteI x0 (0 : Int)) != 34)) = false → (
  ∃ (I0 : (Int × (List Int) × Bool) → Prop) (u0 : (Int × (List Int) × Bool) → Nat), I0 (1, [], false) ∧ u0 (1, [], false) < fuelW ∧ ∀ (d0 : Int × (List Int) × Bool), I0 d0 → (
   let v9 := decide (d0.1 < (ByteArray.size x0 : Int))
   (v9 = true → 0 ≤ d0.1 ∧ d0.1 < (ByteArray.size x0 : Int)) ∧
   ((v9 && ((byteI x0 d0.1) != 34)) = true → (
    let v13 := strV x0 (some d0.1) none
    (sbNeed (ByteArray.size x0) (some d0.1) none) ∧
    let v14 := m290 v13
    (p290 v13) ∧
    ((v14.2 == 0) = false → (
     let j1 : Bool → Prop := fun v18 =>
      let v19 : List Int := ([v14.1] : List Int)
      (List.length d0.2.1 + List.length v19 ≤ maxLen ∧ (List.length d0.2.1 + List.length v19) * 1 ≤ 140737488355328) ∧
      I0 ((IntKind.wrap .i64 (d0.1 + v14.2)), (List.append d0.2.1 v19), v18) ∧ u0 ((IntKind.wrap .i64 (d0.1 + v14.2)), (List.append d0.2.1 v19), v18) < u0 d0
     ((!d0.2.2) = true → (
      j1 true)) ∧ ((!d0.2.2) = false → (
      j1 d0.2.2)))))))))
noncomputable def m198 (x0 : ByteArray) : ByteArray × Int :=
 let v1 := m254 x0
 bif ((v1.2 == 0) || (v1.2 != (ByteArray.size x0 : Int))) then
  (⟨#[]⟩, 4)
 else
  bif (decide ((ByteArray.size v1.1 : Int) > 60)) then
   (⟨#[]⟩, 3)
  else
   (v1.1, 0)
def p198 (x0 : ByteArray) : Prop :=
 let v1 := m254 x0
 p254 x0
noncomputable def m126 (x0 : ByteArray) : Val × Int :=
 let j1 : Int → Int → ByteArray → Val × Int := fun v3 v4 v5 =>
  let v6 := cmS .eql x0 (⟨#[]⟩ : ByteArray)
  let j1 : ByteArray → Val × Int := fun v7 =>
   bif (v6 || (cmS .neq v7 x0)) then
    (⟨0, 0, ⟨#[]⟩⟩, 4)
   else
    (⟨v3, v4, v5⟩, 0)
  bif v6 then
   j1 (⟨#[]⟩ : ByteArray)
  else
   j1 (m43 ⟨v3, v4, v5⟩)
 bif (cmS .eql x0 (⟨#[110, 111, 110, 101]⟩ : ByteArray)) then
  j1 (0 : Int) (0 : Int) (⟨#[]⟩ : ByteArray)
 else
  bif ((cmS .eql x0 (⟨#[116, 114, 117, 101]⟩ : ByteArray)) || (cmS .eql x0 (⟨#[102, 97, 108, 115, 101]⟩ : ByteArray))) then
   bif (cmS .eql x0 (⟨#[116, 114, 117, 101]⟩ : ByteArray)) then
    j1 (1 : Int) (1 : Int) (⟨#[]⟩ : ByteArray)
   else
    j1 (1 : Int) (0 : Int) (⟨#[]⟩ : ByteArray)
  else
   bif ((cmS .neq x0 (⟨#[]⟩ : ByteArray)) && ((byteI x0 (0 : Int)) == 35)) then
    let v10 := m129 (strV x0 (some (1 : Int)) none)
    j1 (3 : Int) v10.1 (⟨#[]⟩ : ByteArray)
   else
    bif ((cmS .neq x0 (⟨#[]⟩ : ByteArray)) && ((byteI x0 (0 : Int)) == 34)) then
     let v13 := m198 x0
     j1 (4 : Int) (0 : Int) v13.1
    else
     let v13 := m129 x0
     j1 (2 : Int) v13.1 (⟨#[]⟩ : ByteArray)
def p126 (x0 : ByteArray) : Prop :=
 let j1 : Int → Int → ByteArray → Prop := fun v3 v4 v5 =>
  let v6 := cmS .eql x0 (⟨#[]⟩ : ByteArray)
  (v6 = false → (
   p43 ⟨v3, v4, v5⟩))
 ((cmS .eql x0 (⟨#[110, 111, 110, 101]⟩ : ByteArray)) = true → (
  j1 (0 : Int) (0 : Int) (⟨#[]⟩ : ByteArray))) ∧ ((cmS .eql x0 (⟨#[110, 111, 110, 101]⟩ : ByteArray)) = false → (
  (((cmS .eql x0 (⟨#[116, 114, 117, 101]⟩ : ByteArray)) || (cmS .eql x0 (⟨#[102, 97, 108, 115, 101]⟩ : ByteArray))) = true → (
   ((cmS .eql x0 (⟨#[116, 114, 117, 101]⟩ : ByteArray)) = true → (
    j1 (1 : Int) (1 : Int) (⟨#[]⟩ : ByteArray))) ∧ ((cmS .eql x0 (⟨#[116, 114, 117, 101]⟩ : ByteArray)) = false → (
    j1 (1 : Int) (0 : Int) (⟨#[]⟩ : ByteArray))))) ∧ (((cmS .eql x0 (⟨#[116, 114, 117, 101]⟩ : ByteArray)) || (cmS .eql x0 (⟨#[102, 97, 108, 115, 101]⟩ : ByteArray))) = false → (
   let v5 := cmS .neq x0 (⟨#[]⟩ : ByteArray)
   (v5 = true → 0 ≤ (0 : Int) ∧ (0 : Int) < (ByteArray.size x0 : Int)) ∧
   ((v5 && ((byteI x0 (0 : Int)) == 35)) = true → (
    let v9 := strV x0 (some (1 : Int)) none
    (sbNeed (ByteArray.size x0) (some (1 : Int)) none) ∧
    let v10 := m129 v9
    (p129 v9) ∧
    j1 (3 : Int) v10.1 (⟨#[]⟩ : ByteArray))) ∧ ((v5 && ((byteI x0 (0 : Int)) == 35)) = false → (
    let v9 := cmS .neq x0 (⟨#[]⟩ : ByteArray)
    (v9 = true → 0 ≤ (0 : Int) ∧ (0 : Int) < (ByteArray.size x0 : Int)) ∧
    ((v9 && ((byteI x0 (0 : Int)) == 34)) = true → (
     let v13 := m198 x0
     (p198 x0) ∧
     j1 (4 : Int) (0 : Int) v13.1)) ∧ ((v9 && ((byteI x0 (0 : Int)) == 34)) = false → (
     let v13 := m129 x0
     (p129 x0) ∧
     j1 (2 : Int) v13.1 (⟨#[]⟩ : ByteArray)))))))))
noncomputable def m127 (x0 : ByteArray) : Int × ByteArray × ByteArray × Bool :=
 let j2 : ByteArray → ByteArray → Bool → Int × ByteArray × ByteArray × Bool := fun v1 v2 v3 =>
  let j2 : ByteArray → ByteArray → Bool → Int × ByteArray × ByteArray × Bool := fun v4 v5 v6 =>
   let v7 := m129 v1
   (v7.1, v4, v5, ((v3 && v6) && v7.2))
  let j1 : Int → Int × ByteArray × ByteArray × Bool := fun v4 =>
   bif (decide (v4 ≥ 0)) then
    j2 (strV v2 none (some v4)) (strV v2 (some (IntKind.wrap .i64 (v4 + (1 : Int)))) none) true
   else
    j2 v2 (⟨#[]⟩ : ByteArray) false
  bif (cmS .eql (⟨#[46]⟩ : ByteArray) v2) then
   j1 (0 : Int)
  else
   j1 (m204 v2 (byteI (⟨#[46]⟩ : ByteArray) (0 : Int)))
 let j1 : Int → Int × ByteArray × ByteArray × Bool := fun v1 =>
  bif (decide (v1 ≥ 0)) then
   j2 (strV x0 none (some v1)) (strV x0 (some (IntKind.wrap .i64 (v1 + (1 : Int)))) none) true
  else
   j2 x0 (⟨#[]⟩ : ByteArray) false
 bif (cmS .eql (⟨#[46]⟩ : ByteArray) x0) then
  j1 (0 : Int)
 else
  j1 (m204 x0 (byteI (⟨#[46]⟩ : ByteArray) (0 : Int)))
def p127 (x0 : ByteArray) : Prop :=
 let j2 : ByteArray → ByteArray → Bool → Prop := fun v1 v2 v3 =>
  let j2 : ByteArray → ByteArray → Bool → Prop := fun v4 v5 v6 =>
   let v7 := m129 v1
   p129 v1
  let j1 : Int → Prop := fun v4 =>
   ((decide (v4 ≥ 0)) = true → (
    (sbNeed (ByteArray.size v2) none (some v4)) ∧
    let v7 : Int := IntKind.wrap .i64 (v4 + (1 : Int))
    (sbNeed (ByteArray.size v2) (some v7) none) ∧
    j2 (strV v2 none (some v4)) (strV v2 (some v7) none) true)) ∧ ((decide (v4 ≥ 0)) = false → (
    j2 v2 (⟨#[]⟩ : ByteArray) false))
  ((cmS .eql (⟨#[46]⟩ : ByteArray) v2) = true → (
   j1 (0 : Int))) ∧ ((cmS .eql (⟨#[46]⟩ : ByteArray) v2) = false → (
   (0 ≤ (0 : Int) ∧ (0 : Int) < (ByteArray.size (⟨#[46]⟩ : ByteArray) : Int)) ∧
   j1 (m204 v2 (byteI (⟨#[46]⟩ : ByteArray) (0 : Int)))))
 let j1 : Int → Prop := fun v1 =>
  ((decide (v1 ≥ 0)) = true → (
   (sbNeed (ByteArray.size x0) none (some v1)) ∧
   let v4 : Int := IntKind.wrap .i64 (v1 + (1 : Int))
   (sbNeed (ByteArray.size x0) (some v4) none) ∧
   j2 (strV x0 none (some v1)) (strV x0 (some v4) none) true)) ∧ ((decide (v1 ≥ 0)) = false → (
   j2 x0 (⟨#[]⟩ : ByteArray) false))
 ((cmS .eql (⟨#[46]⟩ : ByteArray) x0) = true → (
  j1 (0 : Int))) ∧ ((cmS .eql (⟨#[46]⟩ : ByteArray) x0) = false → (
  (0 ≤ (0 : Int) ∧ (0 : Int) < (ByteArray.size (⟨#[46]⟩ : ByteArray) : Int)) ∧
  j1 (m204 x0 (byteI (⟨#[46]⟩ : ByteArray) (0 : Int)))))
noncomputable def m199 (x0 : Int) : Int :=
 Sum.elim (fun r => r) (fun c0 =>
  (-1))
 (loopS (fun (i17 : Nat) (c1 : Unit) =>
  show Step (Int) (Unit) from
  let v19 : Int := nthL ([(byteI (⟨#[48, 49, 50, 51, 52, 53, 54, 55, 56, 57, 97, 98, 99, 100, 101, 102]⟩ : ByteArray) (0 : Int)), (byteI (⟨#[48, 49, 50, 51, 52, 53, 54, 55, 56, 57, 97, 98, 99, 100, 101, 102]⟩ : ByteArray) (1 : Int)), (byteI (⟨#[48, 49, 50, 51, 52, 53, 54, 55, 56, 57, 97, 98, 99, 100, 101, 102]⟩ : ByteArray) (2 : Int)), (byteI (⟨#[48, 49, 50, 51, 52, 53, 54, 55, 56, 57, 97, 98, 99, 100, 101, 102]⟩ : ByteArray) (3 : Int)), (byteI (⟨#[48, 49, 50, 51, 52, 53, 54, 55, 56, 57, 97, 98, 99, 100, 101, 102]⟩ : ByteArray) (4 : Int)), (byteI (⟨#[48, 49, 50, 51, 52, 53, 54, 55, 56, 57, 97, 98, 99, 100, 101, 102]⟩ : ByteArray) (5 : Int)), (byteI (⟨#[48, 49, 50, 51, 52, 53, 54, 55, 56, 57, 97, 98, 99, 100, 101, 102]⟩ : ByteArray) (6 : Int)), (byteI (⟨#[48, 49, 50, 51, 52, 53, 54, 55, 56, 57, 97, 98, 99, 100, 101, 102]⟩ : ByteArray) (7 : Int)), (byteI (⟨#[48, 49, 50, 51, 52, 53, 54, 55, 56, 57, 97, 98, 99, 100, 101, 102]⟩ : ByteArray) (8 : Int)), (byteI (⟨#[48, 49, 50, 51, 52, 53, 54, 55, 56, 57, 97, 98, 99, 100, 101, 102]⟩ : ByteArray) (9 : Int)), (byteI (⟨#[48, 49, 50, 51, 52, 53, 54, 55, 56, 57, 97, 98, 99, 100, 101, 102]⟩ : ByteArray) (10 : Int)), (byteI (⟨#[48, 49, 50, 51, 52, 53, 54, 55, 56, 57, 97, 98, 99, 100, 101, 102]⟩ : ByteArray) (11 : Int)), (byteI (⟨#[48, 49, 50, 51, 52, 53, 54, 55, 56, 57, 97, 98, 99, 100, 101, 102]⟩ : ByteArray) (12 : Int)), (byteI (⟨#[48, 49, 50, 51, 52, 53, 54, 55, 56, 57, 97, 98, 99, 100, 101, 102]⟩ : ByteArray) (13 : Int)), (byteI (⟨#[48, 49, 50, 51, 52, 53, 54, 55, 56, 57, 97, 98, 99, 100, 101, 102]⟩ : ByteArray) (14 : Int)), (byteI (⟨#[48, 49, 50, 51, 52, 53, 54, 55, 56, 57, 97, 98, 99, 100, 101, 102]⟩ : ByteArray) (15 : Int))] : List Int) (Int.toNat (i17 : Int))
  bif (v19 == x0) then
   .ret (i17 : Int)
  else
   .nxt ()) 0 (Int.toNat (16 : Int)) () : Int ⊕ (Unit))
def p199 (x0 : Int) : Prop :=
 (0 ≤ (0 : Int) ∧ (0 : Int) < (ByteArray.size (⟨#[48, 49, 50, 51, 52, 53, 54, 55, 56, 57, 97, 98, 99, 100, 101, 102]⟩ : ByteArray) : Int)) ∧
 (0 ≤ (1 : Int) ∧ (1 : Int) < (ByteArray.size (⟨#[48, 49, 50, 51, 52, 53, 54, 55, 56, 57, 97, 98, 99, 100, 101, 102]⟩ : ByteArray) : Int)) ∧
 (0 ≤ (2 : Int) ∧ (2 : Int) < (ByteArray.size (⟨#[48, 49, 50, 51, 52, 53, 54, 55, 56, 57, 97, 98, 99, 100, 101, 102]⟩ : ByteArray) : Int)) ∧
 (0 ≤ (3 : Int) ∧ (3 : Int) < (ByteArray.size (⟨#[48, 49, 50, 51, 52, 53, 54, 55, 56, 57, 97, 98, 99, 100, 101, 102]⟩ : ByteArray) : Int)) ∧
 (0 ≤ (4 : Int) ∧ (4 : Int) < (ByteArray.size (⟨#[48, 49, 50, 51, 52, 53, 54, 55, 56, 57, 97, 98, 99, 100, 101, 102]⟩ : ByteArray) : Int)) ∧
 (0 ≤ (5 : Int) ∧ (5 : Int) < (ByteArray.size (⟨#[48, 49, 50, 51, 52, 53, 54, 55, 56, 57, 97, 98, 99, 100, 101, 102]⟩ : ByteArray) : Int)) ∧
 (0 ≤ (6 : Int) ∧ (6 : Int) < (ByteArray.size (⟨#[48, 49, 50, 51, 52, 53, 54, 55, 56, 57, 97, 98, 99, 100, 101, 102]⟩ : ByteArray) : Int)) ∧
 (0 ≤ (7 : Int) ∧ (7 : Int) < (ByteArray.size (⟨#[48, 49, 50, 51, 52, 53, 54, 55, 56, 57, 97, 98, 99, 100, 101, 102]⟩ : ByteArray) : Int)) ∧
 (0 ≤ (8 : Int) ∧ (8 : Int) < (ByteArray.size (⟨#[48, 49, 50, 51, 52, 53, 54, 55, 56, 57, 97, 98, 99, 100, 101, 102]⟩ : ByteArray) : Int)) ∧
 (0 ≤ (9 : Int) ∧ (9 : Int) < (ByteArray.size (⟨#[48, 49, 50, 51, 52, 53, 54, 55, 56, 57, 97, 98, 99, 100, 101, 102]⟩ : ByteArray) : Int)) ∧
 (0 ≤ (10 : Int) ∧ (10 : Int) < (ByteArray.size (⟨#[48, 49, 50, 51, 52, 53, 54, 55, 56, 57, 97, 98, 99, 100, 101, 102]⟩ : ByteArray) : Int)) ∧
 (0 ≤ (11 : Int) ∧ (11 : Int) < (ByteArray.size (⟨#[48, 49, 50, 51, 52, 53, 54, 55, 56, 57, 97, 98, 99, 100, 101, 102]⟩ : ByteArray) : Int)) ∧
 (0 ≤ (12 : Int) ∧ (12 : Int) < (ByteArray.size (⟨#[48, 49, 50, 51, 52, 53, 54, 55, 56, 57, 97, 98, 99, 100, 101, 102]⟩ : ByteArray) : Int)) ∧
 (0 ≤ (13 : Int) ∧ (13 : Int) < (ByteArray.size (⟨#[48, 49, 50, 51, 52, 53, 54, 55, 56, 57, 97, 98, 99, 100, 101, 102]⟩ : ByteArray) : Int)) ∧
 (0 ≤ (14 : Int) ∧ (14 : Int) < (ByteArray.size (⟨#[48, 49, 50, 51, 52, 53, 54, 55, 56, 57, 97, 98, 99, 100, 101, 102]⟩ : ByteArray) : Int)) ∧
 0 ≤ (15 : Int) ∧ (15 : Int) < (ByteArray.size (⟨#[48, 49, 50, 51, 52, 53, 54, 55, 56, 57, 97, 98, 99, 100, 101, 102]⟩ : ByteArray) : Int)
noncomputable def m128 (x0 : ByteArray) : ByteArray × Int :=
 let v1 : Int := (ByteArray.size x0 : Int)
 bif ((arI .rem .i64 v1 (2 : Int)) != 0) then
  (⟨#[]⟩, 4)
 else
  Sum.elim (fun r => r) (fun c0 =>
   ((bytesOf c0.2), 0))
  (loopW (fun (c1 : Int × (List Int)) =>
   show Step (ByteArray × Int) (Int × (List Int)) from
   bif (decide (c1.1 < v1)) then
    let v12 := m199 (byteI x0 c1.1)
    let v13 := m199 (byteI x0 (IntKind.wrap .i64 (c1.1 + (1 : Int))))
    bif ((decide (v12 < 0)) || (decide (v13 < 0))) then
     .ret (⟨#[]⟩, 4)
    else
     .nxt ((IntKind.wrap .i64 (c1.1 + (2 : Int))), (List.append c1.2 ([(IntKind.wrap .u8 (IntKind.wrap .i64 ((IntKind.wrap .i64 ((16 : Int) * v12)) + v13)))] : List Int)))
   else
    .brk (c1.1, c1.2)) fuelW (0, (List.replicate (Int.toNat (0 : Int)) (dT .u8))) : (ByteArray × Int) ⊕ (Int × (List Int)))
def p128 (x0 : ByteArray) : Prop :=
 let v1 : Int := (ByteArray.size x0 : Int)
 (((arI .rem .i64 v1 (2 : Int)) != 0) = false → (
  (0 ≤ (0 : Int) ∧ (0 : Int) ≤ (arI .quo .i64 v1 (2 : Int)) ∧ (arI .quo .i64 v1 (2 : Int)) ≤ (maxLen : Int) ∧ (1 : Int) * (arI .quo .i64 v1 (2 : Int)) ≤ 281474976710656) ∧
  ∃ (I0 : (Int × (List Int)) → Prop) (u0 : (Int × (List Int)) → Nat), I0 (0, (List.replicate (Int.toNat (0 : Int)) (dT .u8))) ∧ u0 (0, (List.replicate (Int.toNat (0 : Int)) (dT .u8))) < fuelW ∧ ∀ (d0 : Int × (List Int)), I0 d0 → (
   ((decide (d0.1 < v1)) = true → (
    let v9 : Int := byteI x0 d0.1
    (0 ≤ d0.1 ∧ d0.1 < (ByteArray.size x0 : Int)) ∧
    let v10 : Int := IntKind.wrap .i64 (d0.1 + (1 : Int))
    let v11 : Int := byteI x0 v10
    (0 ≤ v10 ∧ v10 < (ByteArray.size x0 : Int)) ∧
    let v12 := m199 v9
    (p199 v9) ∧
    let v13 := m199 v11
    (p199 v11) ∧
    (((decide (v12 < 0)) || (decide (v13 < 0))) = false → (
     let v20 : List Int := ([(IntKind.wrap .u8 (IntKind.wrap .i64 ((IntKind.wrap .i64 ((16 : Int) * v12)) + v13)))] : List Int)
     (List.length d0.2 + List.length v20 ≤ maxLen ∧ (List.length d0.2 + List.length v20) * 1 ≤ 140737488355328) ∧
     I0 ((IntKind.wrap .i64 (d0.1 + (2 : Int))), (List.append d0.2 v20)) ∧ u0 ((IntKind.wrap .i64 (d0.1 + (2 : Int))), (List.append d0.2 v20)) < u0 d0)))))))
noncomputable def m56 (x0 : Int) (x1 : ByteArray) : ActV × Bool :=
 let j2 : ByteArray → ByteArray → ActV × Bool := fun v2 v3 =>
  let j2 : Bool → Int → Int → Int → ByteArray → ByteArray → Int → Int → ByteArray → Int → ByteArray → ByteArray → ByteArray → Int → Int → Int → ByteArray → ByteArray → ByteArray → Int → Int → ByteArray → ByteArray → ActV × Bool := fun v5 v8 v9 v10 v11 v12 v13 v14 v15 v16 v17 v18 v19 v20 v21 v22 v23 v24 v25 v26 v27 v28 v29 =>
   (⟨x0, v8, v9, ⟨v10, v11, v12⟩, ⟨v13, v14, v15⟩, ⟨v16, v17, v18⟩, ⟨v19, ⟨v20, v21, ⟨v22, v23, v24⟩, v25, ⟨v26, v27, v28⟩, v29⟩⟩⟩, v5)
  let j1 : Bool → ActV × Bool := fun v5 =>
   bif v5 then
    let v7 := m126 v3
    let v10 := m127 v2
    j2 (v10.2.2.2 && (v7.2 == 0)) (0 : Int) (0 : Int) v10.1 v10.2.1 v10.2.2.1 v7.1.kind v7.1.n v7.1.s (0 : Int) (⟨#[]⟩ : ByteArray) (⟨#[]⟩ : ByteArray) (⟨#[]⟩ : ByteArray) (0 : Int) (0 : Int) (0 : Int) (⟨#[]⟩ : ByteArray) (⟨#[]⟩ : ByteArray) (⟨#[]⟩ : ByteArray) (0 : Int) (0 : Int) (⟨#[]⟩ : ByteArray) (⟨#[]⟩ : ByteArray)
   else
    bif (x0 == 3) then
     let v8 := m127 x1
     j2 v8.2.2.2 (0 : Int) (0 : Int) (0 : Int) (⟨#[]⟩ : ByteArray) (⟨#[]⟩ : ByteArray) (0 : Int) (0 : Int) (⟨#[]⟩ : ByteArray) v8.1 v8.2.1 v8.2.2.1 (⟨#[]⟩ : ByteArray) (0 : Int) (0 : Int) (0 : Int) (⟨#[]⟩ : ByteArray) (⟨#[]⟩ : ByteArray) (⟨#[]⟩ : ByteArray) (0 : Int) (0 : Int) (⟨#[]⟩ : ByteArray) (⟨#[]⟩ : ByteArray)
    else
     bif (x0 == 12) then
      let v9 := m128 v3
      let v12 := m26 v9.1
      j2 ((v9.2 == 0) && (v12.2 == 0)) (0 : Int) (0 : Int) (0 : Int) (⟨#[]⟩ : ByteArray) (⟨#[]⟩ : ByteArray) (0 : Int) (0 : Int) (⟨#[]⟩ : ByteArray) (0 : Int) (⟨#[]⟩ : ByteArray) (⟨#[]⟩ : ByteArray) v2 v12.1.kind v12.1.nonce v12.1.key.dev v12.1.key.cluster v12.1.key.attr v12.1.name v12.1.value.kind v12.1.value.n v12.1.value.s v12.1.text
     else
      let j1 : Bool → ActV × Bool := fun v9 =>
       bif v9 then
        let v11 := m129 v2
        let v14 := m129 v3
        j2 (v11.2 && v14.2) v11.1 v14.1 (0 : Int) (⟨#[]⟩ : ByteArray) (⟨#[]⟩ : ByteArray) (0 : Int) (0 : Int) (⟨#[]⟩ : ByteArray) (0 : Int) (⟨#[]⟩ : ByteArray) (⟨#[]⟩ : ByteArray) (⟨#[]⟩ : ByteArray) (0 : Int) (0 : Int) (0 : Int) (⟨#[]⟩ : ByteArray) (⟨#[]⟩ : ByteArray) (⟨#[]⟩ : ByteArray) (0 : Int) (0 : Int) (⟨#[]⟩ : ByteArray) (⟨#[]⟩ : ByteArray)
       else
        bif (x0 == 14) then
         j2 true (0 : Int) (0 : Int) (0 : Int) (⟨#[]⟩ : ByteArray) (⟨#[]⟩ : ByteArray) (0 : Int) (0 : Int) (⟨#[]⟩ : ByteArray) (0 : Int) (⟨#[]⟩ : ByteArray) (⟨#[]⟩ : ByteArray) (⟨#[]⟩ : ByteArray) (0 : Int) (0 : Int) (0 : Int) (⟨#[]⟩ : ByteArray) (⟨#[]⟩ : ByteArray) (⟨#[]⟩ : ByteArray) (0 : Int) (0 : Int) (⟨#[]⟩ : ByteArray) (⟨#[]⟩ : ByteArray)
        else
         let v12 := m129 x1
         j2 v12.2 v12.1 (0 : Int) (0 : Int) (⟨#[]⟩ : ByteArray) (⟨#[]⟩ : ByteArray) (0 : Int) (0 : Int) (⟨#[]⟩ : ByteArray) (0 : Int) (⟨#[]⟩ : ByteArray) (⟨#[]⟩ : ByteArray) (⟨#[]⟩ : ByteArray) (0 : Int) (0 : Int) (0 : Int) (⟨#[]⟩ : ByteArray) (⟨#[]⟩ : ByteArray) (⟨#[]⟩ : ByteArray) (0 : Int) (0 : Int) (⟨#[]⟩ : ByteArray) (⟨#[]⟩ : ByteArray)
      let v9 := x0 == 8
      bif v9 then
       j1 v9
      else
       j1 (x0 == 9)
  let v5 := x0 == 2
  bif v5 then
   j1 v5
  else
   j1 (x0 == 13)
 let j1 : Int → ActV × Bool := fun v2 =>
  bif (decide (v2 ≥ 0)) then
   j2 (strV x1 none (some v2)) (strV x1 (some (IntKind.wrap .i64 (v2 + (1 : Int)))) none)
  else
   j2 x1 (⟨#[]⟩ : ByteArray)
 bif (cmS .eql (⟨#[32]⟩ : ByteArray) x1) then
  j1 (0 : Int)
 else
  j1 (m204 x1 (byteI (⟨#[32]⟩ : ByteArray) (0 : Int)))
def p56 (x0 : Int) (x1 : ByteArray) : Prop :=
 let j2 : ByteArray → ByteArray → Prop := fun v2 v3 =>
  let j1 : Bool → Prop := fun v5 =>
   (v5 = true → (
    let v7 := m126 v3
    (p126 v3) ∧
    let v10 := m127 v2
    p127 v2)) ∧ (v5 = false → (
    ((x0 == 3) = true → (
     let v8 := m127 x1
     p127 x1)) ∧ ((x0 == 3) = false → (
     ((x0 == 12) = true → (
      let v9 := m128 v3
      (p128 v3) ∧
      let v12 := m26 v9.1
      p26 v9.1)) ∧ ((x0 == 12) = false → (
      let j1 : Bool → Prop := fun v9 =>
       (v9 = true → (
        let v11 := m129 v2
        (p129 v2) ∧
        let v14 := m129 v3
        p129 v3)) ∧ (v9 = false → (
        ((x0 == 14) = false → (
         let v12 := m129 x1
         p129 x1))))
      let v9 := x0 == 8
      (v9 = true → (
       j1 v9)) ∧ (v9 = false → (
       j1 (x0 == 9)))))))))
  let v5 := x0 == 2
  (v5 = true → (
   j1 v5)) ∧ (v5 = false → (
   j1 (x0 == 13)))
 let j1 : Int → Prop := fun v2 =>
  ((decide (v2 ≥ 0)) = true → (
   (sbNeed (ByteArray.size x1) none (some v2)) ∧
   let v5 : Int := IntKind.wrap .i64 (v2 + (1 : Int))
   (sbNeed (ByteArray.size x1) (some v5) none) ∧
   j2 (strV x1 none (some v2)) (strV x1 (some v5) none))) ∧ ((decide (v2 ≥ 0)) = false → (
   j2 x1 (⟨#[]⟩ : ByteArray)))
 ((cmS .eql (⟨#[32]⟩ : ByteArray) x1) = true → (
  j1 (0 : Int))) ∧ ((cmS .eql (⟨#[32]⟩ : ByteArray) x1) = false → (
  (0 ≤ (0 : Int) ∧ (0 : Int) < (ByteArray.size (⟨#[32]⟩ : ByteArray) : Int)) ∧
  j1 (m204 x1 (byteI (⟨#[32]⟩ : ByteArray) (0 : Int)))))
noncomputable def m16 (x0 : ByteArray) : ActV × Int :=
 let j2 : ByteArray → ByteArray → ActV × Int := fun v1 v2 =>
  Sum.elim (fun r => r) (fun c0 =>
   (⟨0, 0, 0, ⟨0, ⟨#[]⟩, ⟨#[]⟩⟩, ⟨0, 0, ⟨#[]⟩⟩, ⟨0, ⟨#[]⟩, ⟨#[]⟩⟩, ⟨⟨#[]⟩, ⟨0, 0, ⟨0, ⟨#[]⟩, ⟨#[]⟩⟩, ⟨#[]⟩, ⟨0, 0, ⟨#[]⟩⟩, ⟨#[]⟩⟩⟩⟩, 4))
  (loopS (fun (i4 : Nat) (c1 : Unit) =>
   show Step (ActV × Int) (Unit) from
   let j1 : Step (ActV × Int) (Unit) :=
    .nxt ()
   let v6 : ByteArray := nthL ([⟨#[116, 105, 99, 107]⟩, ⟨#[115, 101, 110, 115, 101]⟩, ⟨#[101, 118, 101, 110, 116]⟩, ⟨#[110, 111, 105, 115, 101]⟩, ⟨#[113, 117, 105, 101, 116]⟩, ⟨#[111, 102, 102]⟩, ⟨#[111, 110]⟩, ⟨#[99, 117, 116]⟩, ⟨#[106, 111, 105, 110]⟩, ⟨#[99, 114, 97, 115, 104]⟩, ⟨#[99, 108, 111, 99, 107]⟩, ⟨#[97, 115, 107]⟩, ⟨#[101, 110, 101, 114, 103, 121]⟩, ⟨#[109, 111, 118, 101]⟩, ⟨#[108, 111, 115, 101]⟩, ⟨#[116, 119, 105, 99, 101]⟩] : List ByteArray) (Int.toNat (i4 : Int))
   bif (cmS .neq v6 v1) then
    j1 
   else
    let v9 := m56 (IntKind.wrap .i64 ((i4 : Int) + (1 : Int))) v2
    let v12 := m13 v9.1
    bif ((v9.2 && (v12.2 == 0)) && (cmS .eql v12.1 x0)) then
     .ret (v9.1, 0)
    else
     j1 ) 0 (Int.toNat (16 : Int)) () : (ActV × Int) ⊕ (Unit))
 let j1 : Int → ActV × Int := fun v1 =>
  bif (decide (v1 ≥ 0)) then
   j2 (strV x0 none (some v1)) (strV x0 (some (IntKind.wrap .i64 (v1 + (1 : Int)))) none)
  else
   j2 x0 (⟨#[]⟩ : ByteArray)
 bif (cmS .eql (⟨#[32]⟩ : ByteArray) x0) then
  j1 (0 : Int)
 else
  j1 (m204 x0 (byteI (⟨#[32]⟩ : ByteArray) (0 : Int)))
def p16 (x0 : ByteArray) : Prop :=
 let j2 : ByteArray → ByteArray → Prop := fun v1 v2 =>
  ∃ I0 : Nat → (Unit) → Prop, I0 0 () ∧ ∀ (i4 : Nat) (d0 : Unit), i4 < Int.toNat (16 : Int) → I0 i4 d0 → (
   let j1 : Prop :=
    I0 (i4 + 1) ()
   let v6 : ByteArray := nthL ([⟨#[116, 105, 99, 107]⟩, ⟨#[115, 101, 110, 115, 101]⟩, ⟨#[101, 118, 101, 110, 116]⟩, ⟨#[110, 111, 105, 115, 101]⟩, ⟨#[113, 117, 105, 101, 116]⟩, ⟨#[111, 102, 102]⟩, ⟨#[111, 110]⟩, ⟨#[99, 117, 116]⟩, ⟨#[106, 111, 105, 110]⟩, ⟨#[99, 114, 97, 115, 104]⟩, ⟨#[99, 108, 111, 99, 107]⟩, ⟨#[97, 115, 107]⟩, ⟨#[101, 110, 101, 114, 103, 121]⟩, ⟨#[109, 111, 118, 101]⟩, ⟨#[108, 111, 115, 101]⟩, ⟨#[116, 119, 105, 99, 101]⟩] : List ByteArray) (Int.toNat (i4 : Int))
   ((cmS .neq v6 v1) = true → (
    j1 )) ∧ ((cmS .neq v6 v1) = false → (
    let v8 : Int := IntKind.wrap .i64 ((i4 : Int) + (1 : Int))
    let v9 := m56 v8 v2
    (p56 v8 v2) ∧
    let v12 := m13 v9.1
    (p13 v9.1) ∧
    (((v9.2 && (v12.2 == 0)) && (cmS .eql v12.1 x0)) = false → (
     j1 )))))
 let j1 : Int → Prop := fun v1 =>
  ((decide (v1 ≥ 0)) = true → (
   (sbNeed (ByteArray.size x0) none (some v1)) ∧
   let v4 : Int := IntKind.wrap .i64 (v1 + (1 : Int))
   (sbNeed (ByteArray.size x0) (some v4) none) ∧
   j2 (strV x0 none (some v1)) (strV x0 (some v4) none))) ∧ ((decide (v1 ≥ 0)) = false → (
   j2 x0 (⟨#[]⟩ : ByteArray)))
 ((cmS .eql (⟨#[32]⟩ : ByteArray) x0) = true → (
  j1 (0 : Int))) ∧ ((cmS .eql (⟨#[32]⟩ : ByteArray) x0) = false → (
  (0 ≤ (0 : Int) ∧ (0 : Int) < (ByteArray.size (⟨#[32]⟩ : ByteArray) : Int)) ∧
  j1 (m204 x0 (byteI (⟨#[32]⟩ : ByteArray) (0 : Int)))))
noncomputable def m20 (x0 : ByteArray) : (List ActV) × Int × Int :=
 bif (decide ((ByteArray.size x0 : Int) > 1048576)) then
  ([], 0, 3)
 else
  let j1 : ByteArray → Bool → Int → (List ActV) × Int × Int := fun v3 v4 v5 =>
   Sum.elim (fun r => r) (fun c0 =>
    (c0.2.2.2.1, 0, 0))
   (loopW (fun (c1 : Int × ByteArray × Bool × (List ActV) × Bool × Int) =>
    show Step ((List ActV) × Int × Int) (Int × ByteArray × Bool × (List ActV) × Bool × Int) from
    bif c1.2.2.1 then
     let j1 : Int → (List ActV) → Step ((List ActV) × Int × Int) (Int × ByteArray × Bool × (List ActV) × Bool × Int) := fun v12 v17 =>
      let j1 : ByteArray → Bool → Bool → Int → Step ((List ActV) × Int × Int) (Int × ByteArray × Bool × (List ActV) × Bool × Int) := fun v18 v19 v20 v21 =>
       .nxt (v12, v18, v19, v17, v20, v21)
      bif c1.2.2.2.2.1 then
       j1 (⟨#[]⟩ : ByteArray) false c1.2.2.2.2.1 c1.2.2.2.2.2
      else
       let v19 := m135 (strV x0 (some c1.2.2.2.2.2) none) (10 : Int)
       bif (decide (v19 < 0)) then
        j1 (strV x0 (some c1.2.2.2.2.2) none) true true c1.2.2.2.2.2
       else
        j1 (strV x0 (some c1.2.2.2.2.2) (some (IntKind.wrap .i64 (c1.2.2.2.2.2 + v19)))) true c1.2.2.2.2.1 (IntKind.wrap .i64 (c1.2.2.2.2.2 + (IntKind.wrap .i64 (v19 + (1 : Int)))))
     let v12 : Int := IntKind.wrap .i64 (c1.1 + (1 : Int))
     bif ((cmS .eql c1.2.1 (⟨#[]⟩ : ByteArray)) || ((byteI c1.2.1 (0 : Int)) == 35)) then
      j1 v12 c1.2.2.2.1
     else
      let v17 := m16 c1.2.1
      bif (v17.2 != 0) then
       .ret ([], v12, 4)
      else
       j1 v12 (List.append c1.2.2.2.1 ([v17.1] : List ActV))
    else
     .brk (c1.1, c1.2.1, c1.2.2.1, c1.2.2.2.1, c1.2.2.2.2.1, c1.2.2.2.2.2)) fuelW (0, v3, true, [], v4, v5) : ((List ActV) × Int × Int) ⊕ (Int × ByteArray × Bool × (List ActV) × Bool × Int))
  let v4 := m135 (strV x0 (some (0 : Int)) none) (10 : Int)
  bif (decide (v4 < 0)) then
   j1 (strV x0 (some (0 : Int)) none) true (0 : Int)
  else
   j1 (strV x0 (some (0 : Int)) (some (IntKind.wrap .i64 ((0 : Int) + v4)))) false (IntKind.wrap .i64 ((0 : Int) + (IntKind.wrap .i64 (v4 + (1 : Int)))))
def p20 (x0 : ByteArray) : Prop :=
 ((decide ((ByteArray.size x0 : Int) > 1048576)) = false → (
  let j1 : ByteArray → Bool → Int → Prop := fun v3 v4 v5 =>
   ∃ (I0 : (Int × ByteArray × Bool × (List ActV) × Bool × Int) → Prop) (u0 : (Int × ByteArray × Bool × (List ActV) × Bool × Int) → Nat), I0 (0, v3, true, [], v4, v5) ∧ u0 (0, v3, true, [], v4, v5) < fuelW ∧ ∀ (d0 : Int × ByteArray × Bool × (List ActV) × Bool × Int), I0 d0 → (
    (d0.2.2.1 = true → (
     let j1 : Int → (List ActV) → Prop := fun v12 v17 =>
      let j1 : ByteArray → Bool → Bool → Int → Prop := fun v18 v19 v20 v21 =>
       I0 (v12, v18, v19, v17, v20, v21) ∧ u0 (v12, v18, v19, v17, v20, v21) < u0 d0
      (d0.2.2.2.2.1 = true → (
       j1 (⟨#[]⟩ : ByteArray) false d0.2.2.2.2.1 d0.2.2.2.2.2)) ∧ (d0.2.2.2.2.1 = false → (
       (sbNeed (ByteArray.size x0) (some d0.2.2.2.2.2) none) ∧
       let v19 := m135 (strV x0 (some d0.2.2.2.2.2) none) (10 : Int)
       ((decide (v19 < 0)) = true → (
        (sbNeed (ByteArray.size x0) (some d0.2.2.2.2.2) none) ∧
        j1 (strV x0 (some d0.2.2.2.2.2) none) true true d0.2.2.2.2.2)) ∧ ((decide (v19 < 0)) = false → (
        let v21 : Int := IntKind.wrap .i64 (d0.2.2.2.2.2 + v19)
        (sbNeed (ByteArray.size x0) (some d0.2.2.2.2.2) (some v21)) ∧
        j1 (strV x0 (some d0.2.2.2.2.2) (some v21)) true d0.2.2.2.2.1 (IntKind.wrap .i64 (d0.2.2.2.2.2 + (IntKind.wrap .i64 (v19 + (1 : Int)))))))))
     let v12 : Int := IntKind.wrap .i64 (d0.1 + (1 : Int))
     let v13 := cmS .eql d0.2.1 (⟨#[]⟩ : ByteArray)
     (v13 = false → 0 ≤ (0 : Int) ∧ (0 : Int) < (ByteArray.size d0.2.1 : Int)) ∧
     ((v13 || ((byteI d0.2.1 (0 : Int)) == 35)) = true → (
      j1 v12 d0.2.2.2.1)) ∧ ((v13 || ((byteI d0.2.1 (0 : Int)) == 35)) = false → (
      let v17 := m16 d0.2.1
      (p16 d0.2.1) ∧
      ((v17.2 != 0) = false → (
       let v21 : List ActV := ([v17.1] : List ActV)
       (List.length d0.2.2.2.1 + List.length v21 ≤ maxLen ∧ (List.length d0.2.2.2.1 + List.length v21) * 272 ≤ 140737488355328) ∧
       j1 v12 (List.append d0.2.2.2.1 v21))))))))
  (sbNeed (ByteArray.size x0) (some (0 : Int)) none) ∧
  let v4 := m135 (strV x0 (some (0 : Int)) none) (10 : Int)
  ((decide (v4 < 0)) = true → (
   (sbNeed (ByteArray.size x0) (some (0 : Int)) none) ∧
   j1 (strV x0 (some (0 : Int)) none) true (0 : Int))) ∧ ((decide (v4 < 0)) = false → (
   let v6 : Int := IntKind.wrap .i64 ((0 : Int) + v4)
   (sbNeed (ByteArray.size x0) (some (0 : Int)) (some v6)) ∧
   j1 (strV x0 (some (0 : Int)) (some v6)) false (IntKind.wrap .i64 ((0 : Int) + (IntKind.wrap .i64 (v4 + (1 : Int)))))))))
noncomputable def m15  : Bool :=
 let v0 := m13 ⟨2, 0, 0, ⟨1, ⟨#[118, 97, 108, 118, 101]⟩, ⟨#[111, 112, 101, 110]⟩⟩, ⟨1, 1, ⟨#[]⟩⟩, ⟨0, ⟨#[]⟩, ⟨#[]⟩⟩, ⟨⟨#[]⟩, ⟨0, 0, ⟨0, ⟨#[]⟩, ⟨#[]⟩⟩, ⟨#[]⟩, ⟨0, 0, ⟨#[]⟩⟩, ⟨#[]⟩⟩⟩⟩
 bif ((v0.2 != 0) || (cmS .neq v0.1 (⟨#[115, 101, 110, 115, 101, 32, 49, 46, 118, 97, 108, 118, 101, 46, 111, 112, 101, 110, 32, 116, 114, 117, 101]⟩ : ByteArray))) then
  false
 else
  let v6 := m13 ⟨11, (-1), 0, ⟨0, ⟨#[]⟩, ⟨#[]⟩⟩, ⟨0, 0, ⟨#[]⟩⟩, ⟨0, ⟨#[]⟩, ⟨#[]⟩⟩, ⟨⟨#[]⟩, ⟨0, 0, ⟨0, ⟨#[]⟩, ⟨#[]⟩⟩, ⟨#[]⟩, ⟨0, 0, ⟨#[]⟩⟩, ⟨#[]⟩⟩⟩⟩
  bif ((v6.2 != 0) || (cmS .neq v6.1 (⟨#[99, 108, 111, 99, 107, 32, 45, 49]⟩ : ByteArray))) then
   false
  else
   let v12 : List ByteArray := ([⟨#[116, 105, 99, 107, 32, 48, 53]⟩, ⟨#[116, 105, 99, 107]⟩, ⟨#[84, 105, 99, 107, 32, 53]⟩, ⟨#[115, 101, 110, 115, 101, 32, 49, 46, 118, 97, 108, 118, 101, 46, 111, 112, 101, 110, 32, 110, 111, 110, 101]⟩] : List ByteArray)
   let v13 : Int := (List.length v12 : Int)
   Sum.elim (fun r => r) (fun c0 =>
    let v14 := m20 (⟨#[35, 32, 97, 32, 114, 101, 109, 97, 114, 107, 10, 10, 110, 111, 110, 115, 101, 110, 115, 101, 10]⟩ : ByteArray)
    ((v14.2.1 == 3) && (v14.2.2 == 4)))
   (loopS (fun (i14 : Nat) (c1 : Unit) =>
    show Step (Bool) (Unit) from
    let v17 := m16 (List.getD v12 (Int.toNat (i14 : Int)) (dT .str))
    bif (v17.2 != 4) then
     .ret false
    else
     .nxt ()) 0 (Int.toNat v13) () : Bool ⊕ (Unit))
def p15  : Prop :=
 let v0 := m13 ⟨2, 0, 0, ⟨1, ⟨#[118, 97, 108, 118, 101]⟩, ⟨#[111, 112, 101, 110]⟩⟩, ⟨1, 1, ⟨#[]⟩⟩, ⟨0, ⟨#[]⟩, ⟨#[]⟩⟩, ⟨⟨#[]⟩, ⟨0, 0, ⟨0, ⟨#[]⟩, ⟨#[]⟩⟩, ⟨#[]⟩, ⟨0, 0, ⟨#[]⟩⟩, ⟨#[]⟩⟩⟩⟩
 (p13 ⟨2, 0, 0, ⟨1, ⟨#[118, 97, 108, 118, 101]⟩, ⟨#[111, 112, 101, 110]⟩⟩, ⟨1, 1, ⟨#[]⟩⟩, ⟨0, ⟨#[]⟩, ⟨#[]⟩⟩, ⟨⟨#[]⟩, ⟨0, 0, ⟨0, ⟨#[]⟩, ⟨#[]⟩⟩, ⟨#[]⟩, ⟨0, 0, ⟨#[]⟩⟩, ⟨#[]⟩⟩⟩⟩) ∧
 (((v0.2 != 0) || (cmS .neq v0.1 (⟨#[115, 101, 110, 115, 101, 32, 49, 46, 118, 97, 108, 118, 101, 46, 111, 112, 101, 110, 32, 116, 114, 117, 101]⟩ : ByteArray))) = false → (
  let v6 := m13 ⟨11, (-1), 0, ⟨0, ⟨#[]⟩, ⟨#[]⟩⟩, ⟨0, 0, ⟨#[]⟩⟩, ⟨0, ⟨#[]⟩, ⟨#[]⟩⟩, ⟨⟨#[]⟩, ⟨0, 0, ⟨0, ⟨#[]⟩, ⟨#[]⟩⟩, ⟨#[]⟩, ⟨0, 0, ⟨#[]⟩⟩, ⟨#[]⟩⟩⟩⟩
  (p13 ⟨11, (-1), 0, ⟨0, ⟨#[]⟩, ⟨#[]⟩⟩, ⟨0, 0, ⟨#[]⟩⟩, ⟨0, ⟨#[]⟩, ⟨#[]⟩⟩, ⟨⟨#[]⟩, ⟨0, 0, ⟨0, ⟨#[]⟩, ⟨#[]⟩⟩, ⟨#[]⟩, ⟨0, 0, ⟨#[]⟩⟩, ⟨#[]⟩⟩⟩⟩) ∧
  (((v6.2 != 0) || (cmS .neq v6.1 (⟨#[99, 108, 111, 99, 107, 32, 45, 49]⟩ : ByteArray))) = false → (
   let v12 : List ByteArray := ([⟨#[116, 105, 99, 107, 32, 48, 53]⟩, ⟨#[116, 105, 99, 107]⟩, ⟨#[84, 105, 99, 107, 32, 53]⟩, ⟨#[115, 101, 110, 115, 101, 32, 49, 46, 118, 97, 108, 118, 101, 46, 111, 112, 101, 110, 32, 110, 111, 110, 101]⟩] : List ByteArray)
   let v13 : Int := (List.length v12 : Int)
   let k0 : Unit → Prop := fun c0 =>
    let v14 := m20 (⟨#[35, 32, 97, 32, 114, 101, 109, 97, 114, 107, 10, 10, 110, 111, 110, 115, 101, 110, 115, 101, 10]⟩ : ByteArray)
    p20 (⟨#[35, 32, 97, 32, 114, 101, 109, 97, 114, 107, 10, 10, 110, 111, 110, 115, 101, 110, 115, 101, 10]⟩ : ByteArray)
   ∃ I0 : Nat → (Unit) → Prop, I0 0 () ∧ (∀ (i14 : Nat) (d0 : Unit), i14 < Int.toNat v13 → I0 i14 d0 → (
    let v16 : ByteArray := List.getD v12 (Int.toNat (i14 : Int)) (dT .str)
    let v17 := m16 v16
    (p16 v16) ∧
    ((v17.2 != 4) = false → (
     I0 (i14 + 1) ())))) ∧ ∀ c0, I0 (Int.toNat v13) c0 → k0 c0))))
noncomputable def m3 (x0 : ActV) : Bool :=
 let v1 := m13 x0
 let v4 := m14 x0
 let v9 : Bool := (cmS .eql v1.1 v4.1) && (v1.2 == v4.2)
 let j1 : Bool → Bool := fun v10 =>
  (v9 && v10)
 bif v9 then
  j1 (m15 )
 else
  j1 false
def p3 (x0 : ActV) : Prop :=
 let v1 := m13 x0
 (p13 x0) ∧
 let v4 := m14 x0
 (p14 x0) ∧
 let v9 : Bool := (cmS .eql v1.1 v4.1) && (v1.2 == v4.2)
 (v9 = true → (
  p15 ))
end Go.Av
