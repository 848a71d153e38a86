/- TE, part F: strings.Builder.String, with the exact world at its end (lines of the shelf's walk, turned). Conditions: a program that bears the function. -/
import Derived.Shelf.Strings.Builder1
import Derived.Test.YtmkpmgfieagphaaGreatDoorPTEk
namespace Go.Av
open Go Go.Proofs Go.Shelf Go.RowKit
variable {P : Program} {ρ : Ren}

theorem runI_loadBytes (w : World) : ∀ (l : List Int) (a : Addr) (acc : ByteArray), (∀ j x, l[j]? = some x → w.cell? (a.add j) = some (.int .u8 x)) →
    (loadBytes a acc l.length).run P w = .ok (l.foldl (fun r n => r.push (UInt8.ofNat n.toNat)) acc) w
  | [], a, acc, _ => by simp [loadBytes]
  | x :: l, a, acc, h => by
    have h0 : w.cell? a = some (.int .u8 x) := by
      have := h 0 x rfl
      simpa [Addr.add] using this
    have ih := runI_loadBytes w l (a.add 1) (acc.push (UInt8.ofNat x.toNat)) (fun j y hy => by
      have := h (j + 1) y (by simpa using hy)
      have e : (a.add 1).add j = a.add (j + 1) := by
        unfold Addr.add
        by_cases hj : j = 0
        · subst hj; simp
        · simp [hj]; omega
      rw [e]; exact this)
    simp only [List.length_cons, loadBytes, Sem.run_bind, run_load, h0, Result.andThen]
    exact ih
theorem runI_unsafeString (w : World) (pt it ty e : TypeId) (hp : P.underlying pt = some (.pointer e)) (hc : P.cellsOf e = 1) (g cells : Nat) (hsh : w.shape? g = some (e, cells)) (l : List Int) (h0 : l ≠ []) (hn : l.length ≤ cells) (h63 : l.length ≤ 9223372036854775807)
    (hcell : ∀ j x, l[j]? = some x → w.cell? ((⟨g, 0, none⟩ : Addr).add j) = some (.int .u8 x)) :
    (Builtin.unsafeString_ #[pt, it] ty #[.pointer (some ⟨g, 0, none⟩), .int .i64 l.length]).run P w = .ok (.string (bytesOf l)) (w.freeze ⟨g, 0, none⟩ l.length) := by
  have hl : l.length ≠ 0 := by simpa using h0
  have hlb := runI_loadBytes (P := P) w l ⟨g, 0, none⟩ .empty hcell
  have hlies := Lib.liesAt_bytes (P := P) hc (cells / P.cellsOf e) l.length (by rw [hc]; simpa using hn)
  have h63' : ¬ (9223372036854775807 : Int) < (l.length : Int) := by omega
  have hdef : Builtin.unsafeString_ #[pt, it] ty #[.pointer (some ⟨g, 0, none⟩), .int .i64 l.length] =
      (do
        let n ← asInt (.int .i64 l.length)
        if n < 0 then runtimePanic (.error "unsafe.String: len out of range")
        if n > IntKind.i64.max then unsupported (.unsafePointer "String: a length above the largest int")
        if n = 0 then pure (.string .empty)
        else if ← variablesAt ⟨g, 0, none⟩ (← elemOf pt) n.toNat then do
          let s ← loadBytes ⟨g, 0, none⟩ .empty n.toNat
          freeze ⟨g, 0, none⟩ n.toNat
          pure (.string s)
        else unsupported (.unsafePointer "String: not so many bytes at ptr")) := rfl
  rw [hdef]
  have hmax : IntKind.i64.max = 9223372036854775807 := rfl
  have hneg : ¬ (l.length : Int) < 0 := by omega
  simp [asInt, asIntOf, hmax, h63', hneg, hl, variablesAt, hsh, elemOf, run_underlying hp, hlies, hlb, bytesOf]

set_option maxHeartbeats 2000000 in
set_option maxRecDepth 100000 in
theorem strB (L : Lays.n169 P ρ) (X : Builder.Extra P ρ) (b g cap : Nat) (p : Value) (cur : Array Value) (l : List Int) (w : World) (h0 : l ≠ []) (hbk : w.heap[b]? = some (.cells #[p, .slice (some ⟨g, 0, none⟩) l.length cap] (ρ.t 72) (0, 0)))
    (hg : w.heap[g]? = some (.cells cur (ρ.t 5) (0, 0))) (hnc : l.length ≤ cap) (hcm : cap ≤ maxLen) (hcs : cur.size = cap * 1) (hcell : ∀ j x, l[j]? = some x → w.cell? ((⟨g, 0, none⟩ : Addr).add j) = some (.int .u8 x)) :
    Calls P (ρ.f 169) #[.pointer (some ⟨b, 0, none⟩)] w fun e w' => e = .returned (.string (bytesOf l)) ∧ w' = w.drew.freeze ⟨g, 0, none⟩ l.length := by
  have hl0 : l.length ≠ 0 := by simpa using h0
  have c1 : w.drew.cell? ⟨b, 1, none⟩ = some (.slice (some ⟨g, 0, none⟩) l.length cap) := by
    have : w.drew.heap[b]? = some (.cells #[p, .slice (some ⟨g, 0, none⟩) l.length cap] (ρ.t 72) (0, 0)) := hbk
    rw [Lib.cell_of_heap this]; rfl
  have hSD : (Builtin.unsafeSliceData_ #[(ρ.t 37)] (ρ.t 127) #[.slice (some ⟨g, 0, none⟩) l.length cap]).run P w.drew = .ok (.pointer (some ⟨g, 0, none⟩)) w.drew :=
    Lib.run_unsafeSliceData_row _ _ _ _ _ _ (by omega)
  have hUS : (Builtin.unsafeString_ #[(ρ.t 127), (ρ.t 3)] (ρ.t 9) #[.pointer (some ⟨g, 0, none⟩), .int .i64 l.length]).run P w.drew = .ok (.string (bytesOf l)) (w.drew.freeze ⟨g, 0, none⟩ l.length) := by
    refine runI_unsafeString w.drew (ρ.t 127) (ρ.t 3) (ρ.t 9) (ρ.t 5) L.t127 X.cellsByte g cur.size (by have hg' : w.drew.heap[g]? = some (.cells cur (ρ.t 5) (0, 0)) := hg; simp [World.shape?, hg']) l h0 (by omega) (by unfold maxLen at hcm; omega) ?_
    intro j x hx
    exact hcell j x hx
  have mixed := L.mixed
  have t72 := L.t72; have a72 := L.a72; have z72 := L.z72; have v72 := L.v72; have u72 := run_underlying L.t72
  have t70 := L.t70; have a70 := L.a70; have z70 := L.z70; have v70 := L.v70; have u70 := run_underlying L.t70
  have t37 := L.t37; have a37 := L.a37; have z37 := L.z37; have v37 := L.v37; have u37 := run_underlying L.t37
  have t127 := L.t127; have a127 := L.a127; have z127 := L.z127; have v127 := L.v127; have u127 := run_underlying L.t127
  have t3 := L.t3; have a3 := L.a3; have z3 := L.z3; have v3 := L.v3; have u3 := run_underlying L.t3
  have t9 := L.t9; have a9 := L.a9; have z9 := L.z9; have v9 := L.v9; have u9 := run_underlying L.t9
  have t5 := X.t5; have a5 := X.a5; have z5 := X.z5; have v5 := X.v5; have u5 := run_underlying X.t5
  go_enter L.f169, Body.n169_ntmps ρ
  go_wp2
  go_region_o
  all_goals (go_wp2; go_ret; exact ⟨rfl, rfl⟩)

set_option maxHeartbeats 2000000 in
set_option maxRecDepth 100000 in
theorem strN (L : Lays.n169 P ρ) (X : Builder.Extra P ρ) (b : Nat) (p : Value) (w : World) (hbk : w.heap[b]? = some (.cells #[p, .slice none 0 0] (ρ.t 72) (0, 0))) :
    Calls P (ρ.f 169) #[.pointer (some ⟨b, 0, none⟩)] w fun e w' => e = .returned (.string ⟨#[]⟩) ∧ w' = w.drew := by
  have hUS := Any.unsafeString_none L X
  have c1 : w.drew.cell? ⟨b, 1, none⟩ = some (.slice none 0 0) := by
    have : w.drew.heap[b]? = some (.cells #[p, .slice none 0 0] (ρ.t 72) (0, 0)) := hbk
    rw [Lib.cell_of_heap this]; rfl
  have hSD : (Builtin.unsafeSliceData_ #[(ρ.t 37)] (ρ.t 127) #[.slice none 0 0]).run P w.drew = .ok (.pointer none) w.drew := rfl
  have mixed := L.mixed
  have t72 := L.t72; have a72 := L.a72; have z72 := L.z72; have v72 := L.v72; have u72 := run_underlying L.t72
  have t70 := L.t70; have a70 := L.a70; have z70 := L.z70; have v70 := L.v70; have u70 := run_underlying L.t70
  have t37 := L.t37; have a37 := L.a37; have z37 := L.z37; have v37 := L.v37; have u37 := run_underlying L.t37
  have t127 := L.t127; have a127 := L.a127; have z127 := L.z127; have v127 := L.v127; have u127 := run_underlying L.t127
  have t3 := L.t3; have a3 := L.a3; have z3 := L.z3; have v3 := L.v3; have u3 := run_underlying L.t3
  have t9 := L.t9; have a9 := L.a9; have z9 := L.z9; have v9 := L.v9; have u9 := run_underlying L.t9
  have t5 := X.t5; have a5 := X.a5; have z5 := X.z5; have v5 := X.v5; have u5 := run_underlying X.t5
  go_enter L.f169, Body.n169_ntmps ρ
  go_wp2
  go_region_o
  all_goals (go_wp2; go_ret; exact ⟨rfl, rfl⟩)

set_option maxHeartbeats 2000000 in
set_option maxRecDepth 100000 in
theorem strR (L : Lays.n169 P ρ) (X : Builder.Extra P ρ) (b g cap : Nat) (p : Value) (w : World) (hc0 : cap ≠ 0) (hbk : w.heap[b]? = some (.cells #[p, .slice (some ⟨g, 0, none⟩) 0 cap] (ρ.t 72) (0, 0))) :
    Calls P (ρ.f 169) #[.pointer (some ⟨b, 0, none⟩)] w fun e w' => e = .returned (.string ⟨#[]⟩) ∧ w' = w.drew := by
  have hUS := Any.unsafeString_none L X
  have c1 : w.drew.cell? ⟨b, 1, none⟩ = some (.slice (some ⟨g, 0, none⟩) 0 cap) := by
    have : w.drew.heap[b]? = some (.cells #[p, .slice (some ⟨g, 0, none⟩) 0 cap] (ρ.t 72) (0, 0)) := hbk
    rw [Lib.cell_of_heap this]; rfl
  have hSD : (Builtin.unsafeSliceData_ #[(ρ.t 37)] (ρ.t 127) #[.slice (some ⟨g, 0, none⟩) 0 cap]).run P w.drew = .ok (.pointer (some ⟨g, 0, none⟩)) w.drew :=
    Lib.run_unsafeSliceData_row _ _ _ _ _ _ hc0
  clear hc0
  have mixed := L.mixed
  have t72 := L.t72; have a72 := L.a72; have z72 := L.z72; have v72 := L.v72; have u72 := run_underlying L.t72
  have t70 := L.t70; have a70 := L.a70; have z70 := L.z70; have v70 := L.v70; have u70 := run_underlying L.t70
  have t37 := L.t37; have a37 := L.a37; have z37 := L.z37; have v37 := L.v37; have u37 := run_underlying L.t37
  have t127 := L.t127; have a127 := L.a127; have z127 := L.z127; have v127 := L.v127; have u127 := run_underlying L.t127
  have t3 := L.t3; have a3 := L.a3; have z3 := L.z3; have v3 := L.v3; have u3 := run_underlying L.t3
  have t9 := L.t9; have a9 := L.a9; have z9 := L.z9; have v9 := L.v9; have u9 := run_underlying L.t9
  have t5 := X.t5; have a5 := X.a5; have z5 := X.z5; have v5 := X.v5; have u5 := run_underlying X.t5
  go_enter L.f169, Body.n169_ntmps ρ
  go_wp2
  go_region_o
  all_goals (go_wp2; go_ret; exact ⟨rfl, rfl⟩)
set_option maxHeartbeats 2000000 in
set_option maxRecDepth 100000 in
theorem strE (L : Lays.n169 P ρ) (X : Builder.Extra P ρ) (b : Nat) (ad q : Addr) (p : Value) (w w2 : World) (hbk : w.heap[b]? = some (.cells #[p, .slice (some ad) 0 0] (ρ.t 72) (0, 0))) (hb2 : w2.heap[b]? = w.heap[b]?)
    (hSD : (Builtin.unsafeSliceData_ #[(ρ.t 37)] (ρ.t 127) #[.slice (some ad) 0 0]).run P w.drew = .ok (.pointer (some q)) w2) :
    Calls P (ρ.f 169) #[.pointer (some ⟨b, 0, none⟩)] w fun e w' => e = .returned (.string ⟨#[]⟩) ∧ w' = w2 := by
  have hUS := Any.unsafeString_none L X
  have c1 : w.drew.cell? ⟨b, 1, none⟩ = some (.slice (some ad) 0 0) := by
    have : w.drew.heap[b]? = some (.cells #[p, .slice (some ad) 0 0] (ρ.t 72) (0, 0)) := hbk
    rw [Lib.cell_of_heap this]; rfl
  have c2 : w2.cell? ⟨b, 1, none⟩ = some (.slice (some ad) 0 0) := by
    have : w2.heap[b]? = some (.cells #[p, .slice (some ad) 0 0] (ρ.t 72) (0, 0)) := hb2.trans hbk
    rw [Lib.cell_of_heap this]; rfl
  clear hb2
  have mixed := L.mixed
  have t72 := L.t72; have a72 := L.a72; have z72 := L.z72; have v72 := L.v72; have u72 := run_underlying L.t72
  have t70 := L.t70; have a70 := L.a70; have z70 := L.z70; have v70 := L.v70; have u70 := run_underlying L.t70
  have t37 := L.t37; have a37 := L.a37; have z37 := L.z37; have v37 := L.v37; have u37 := run_underlying L.t37
  have t127 := L.t127; have a127 := L.a127; have z127 := L.z127; have v127 := L.v127; have u127 := run_underlying L.t127
  have t3 := L.t3; have a3 := L.a3; have z3 := L.z3; have v3 := L.v3; have u3 := run_underlying L.t3
  have t9 := L.t9; have a9 := L.a9; have z9 := L.z9; have v9 := L.v9; have u9 := run_underlying L.t9
  have t5 := X.t5; have a5 := X.a5; have z5 := X.z5; have v5 := X.v5; have u5 := run_underlying X.t5
  go_enter L.f169, Body.n169_ntmps ρ
  go_wp2
  go_region_o
  all_goals (go_wp2; go_ret; exact ⟨rfl, rfl⟩)
theorem strSD (L : Lays.n169 P ρ) (ad : Addr) (w : World) (hex : ad.block < w.heap.size) : ∃ q w2, (Builtin.unsafeSliceData_ #[(ρ.t 37)] (ρ.t 127) #[.slice (some ad) 0 0]).run P w = .ok (.pointer (some q)) w2 ∧ (w2 = w ∨ ∃ o, w2 = w.alloc o) := by
  obtain ⟨o, ho⟩ : ∃ o, w.heap[ad.block]? = some o := ⟨_, Array.getElem?_eq_getElem hex⟩
  have he : (elemOf (ρ.t 127)).run P w = .ok (ρ.t 5) w := by simp [elemOf, run_underlying L.t127]
  have hdef : Builtin.unsafeSliceData_ #[(ρ.t 37)] (ρ.t 127) #[.slice (some ad) 0 0] =
      (do
        if (0 : Nat) ≠ 0 then pure (.pointer (some ad))
        else if (← viewAt ad.block).isSome then pure (.pointer (some ad))
        else pure (.pointer (some ⟨← newObj (.view ad (← elemOf (ρ.t 127))), 0, none⟩))) := rfl
  rw [hdef]
  unfold viewAt
  cases hs : w.shape? ad.block with
  | some s => exact ⟨⟨w.heap.size, 0, none⟩, w.alloc (.view ad (ρ.t 5)), by simp [hs, he], .inr ⟨_, rfl⟩⟩
  | none =>
    cases o with
    | cells c e f => simp [World.shape?, ho] at hs
    | view a t => exact ⟨ad, w, by simp [hs, getObj, Sem.run, ho], .inl rfl⟩
    | _ => exact ⟨⟨w.heap.size, 0, none⟩, w.alloc (.view ad (ρ.t 5)), by simp [hs, getObj, Sem.run, ho, he], .inr ⟨_, rfl⟩⟩
section
variable {w w' : World} {ro : Nat → Prop} {σ : Heap} {β : Nat → Value} {n rid : Nat}
theorem HRel.drop (h : HRel w ro σ β n) {t : TypeId} {m : Nat} {es : List (List RV)} (hr : hget σ rid = some (.row false t m es)) (hw : ∀ k, k < w.heap.size → blk (β rid) ≠ some k → w'.heap[k]? = w.heap[k]?) (hsz : w.heap.size ≤ w'.heap.size) :
    HRel w' ro (hdel σ rid) β n := by
  have hro : ∀ b, ro b → w'.heap[b]? = w.heap[b]? := fun b hb => hw b (h.lt b hb) fun e => h.disj b hb ⟨rid, _, hr, rfl, e⟩
  have sub : ∀ k o, hget (hdel σ rid) k = some o → hget σ k = some o ∧ k ≠ rid := by
    intro k o hk
    rw [hget_hdel] at hk
    split at hk
    · cases hk
    · rename_i hne
      exact ⟨hk, fun e => hne e.symm⟩
  have key : ∀ x c, ARel w ro σ β n x c → ARel w' ro (hdel σ rid) β n x c := fun x c hx => hx.keep hro (fun _ h => h) (Nat.le_refl _) (fun id t cs hk => ⟨rfl, t, cs, (sub _ _ hk).1⟩) (fun id z t n es hk => ⟨rfl, z, t, es, (sub _ _ hk).1⟩) (fun id Φ hk => ⟨rfl, Φ, (sub _ _ hk).1⟩)
  refine ⟨fun k o hk => ?_, fun k k' o o' b hk hk' => h.inj k k' o o' b (sub _ _ hk).1 (sub _ _ hk').1, fun b hb ⟨k, o, hk, hl, hbk⟩ => h.disj b hb ⟨k, o, (sub _ _ hk).1, hl, hbk⟩, fun b hb => Nat.lt_of_lt_of_le (h.lt b hb) hsz⟩
  obtain ⟨hk0, hne⟩ := sub k o hk
  have hoo := h.objs k o hk0
  have hneb : o.live = true → ∀ b, blk (β k) = some b → w'.heap[b]? = w.heap[b]? := fun hl b hb => hw b (hoo.blkLt hl hb) fun e => hne (h.inj k rid o _ b hk0 hr hl rfl hb e)
  cases hoo with
  | box t cs b arr h1 h2 h3 h4 => exact .box t cs b arr h1 ((hneb rfl b (by rw [h1]; rfl)).trans h2) h3 fun j x hj => key _ _ (h4 j x hj)
  | row t n es xs h1 h2 h3 => exact .row t n es xs (h1.keep (fun b hb => hneb rfl b hb) hsz) h2 fun j x hj => (h3 j x hj).keep hro fun _ h => h
  | fro t n es h1 => exact .fro t n es (h1.keep hro fun _ h => h)
  | oth Φ b o h1 h2 h3 => exact .oth Φ b o h1 ((hneb rfl b h1).trans h2) (Φ.mono _ _ _ _ (fun x c h => h.keep hro fun _ h => h) h3)
theorem freeze_heap (w : World) (g m k : Nat) (hk : k ≠ g) : (w.freeze ⟨g, 0, none⟩ m).heap[k]? = w.heap[k]? := by
 unfold World.freeze
 split
 ·rfl
 ·simp only [Array.getElem?_modify]
  rw [if_neg (fun e => hk e.symm)]
theorem freeze_rest (w : World) (a : Addr) (m : Nat) : (w.freeze a m).os = w.os ∧ (w.freeze a m).tape = w.tape ∧ (w.freeze a m).output = w.output ∧ (w.freeze a m).heap.size = w.heap.size := by
 unfold World.freeze
 split
 ·exact ⟨rfl, rfl, rfl, rfl⟩
 ·exact ⟨rfl, rfl, rfl, by simp⟩
theorem strA (L : Lays.n169 P ρ) (X : Builder.Extra P ρ) {G : Glob} {id : Nat} {x0 : AV} {l : List Int} (h0 : l ≠ []) (hid : hget σ id = some (.box (ρ.t 72) [x0, .sl rid])) (hr : hget σ rid = some (.row false (ρ.t 5) 1 (l.map fun z => [.v (.int .u8 z)]))) :
    ACalls P G (ρ.f 169) [.ptr id 0] σ n fun r τ => r = .rv (.v (.string (bytesOf l))) ∧ τ = hdel σ rid := by
  intro w β ro cargs h1 h2 h3 h4 h5
  have hO := h3.objs id _ hid
  have hR := h3.objs rid _ hr
  cases hO with
  | box _ _ b arr e1 e2 e3 e4 =>
    cases hR with
    | row _ _ _ xs hrow hne hcells =>
      have hc0 : cargs.getD 0 undef = .pointer (some ⟨b, 0, none⟩) := by
        have := h2 0 _ rfl
        generalize cargs.getD 0 undef = c0 at this ⊢
        cases this with
        | ptr _ _ _ hl hpp =>
          obtain ⟨b', q1, q2⟩ := hpp _ _ hid
          rw [e1] at q1
          cases q1
          exact q2
      have hca : cargs = #[.pointer (some ⟨b, 0, none⟩)] := by
        have hs : cargs.size = 1 := h1
        apply Array.ext
        · simpa using hs
        · intro i hi1 hi2
          have : i = 0 := by omega
          subst this
          simpa [Array.getD, hs] using hc0
      have hrid : arr.getD 1 undef = β rid := by
        have := e4 1 _ rfl
        generalize arr.getD 1 undef = c0 at this ⊢
        cases this with
        | sl _ _ _ hp => exact hp _ _ _ _ hr
      have harr : arr = #[arr.getD 0 undef, β rid] := by
        have hs : arr.size = 2 := e3
        apply Array.ext
        · simpa using hs
        · intro i hi1 hi2
          have hi : i = 0 ∨ i = 1 := by omega
          rcases hi with rfl | rfl
          · simp [Array.getD, hs]
          · have := hrid
            simp only [Array.getD, hs] at this
            simpa using this
      have hlen : (l.map fun z => [RV.v (.int .u8 z)]).length = l.length := List.length_map ..
      rcases hrow.2 with ⟨_, hz⟩ | ⟨g, cap, cur, hv, hp, hg, hle, hcm, hcs, htake⟩
      · rw [hlen] at hz
        exact absurd (List.eq_nil_of_length_eq_zero hz) h0
      · rw [hlen] at hv hle htake
        have hg0 : blk (β rid) = some g := by rw [hv]; simp [blk, Nat.ne_of_gt hp]
        rw [hca]
        refine Calls.mono (strB L X b g cap (arr.getD 0 undef) cur l w h0 (by rw [e2, ← hv, ← harr]) hg hle hcm hcs fun j x hx => ?_) fun e w' ⟨he, hw⟩ => ?_
        · have hj := (List.getElem?_eq_some_iff.1 hx).1
          have hc := hcells j (.v (.int .u8 x)) (by rw [flat_u8, List.getElem?_map, hx]; rfl)
          have hxj : xs.getD j undef = .int .u8 x := by
            generalize xs.getD j undef = c0 at hc ⊢
            cases hc with
            | v => rfl
          have hx2 : xs[j]? = some (.int .u8 x) := by
            have hxl : j < xs.length := by rw [hrow.1, hlen]; omega
            rw [← hxj]
            simp [List.getD, List.getElem?_eq_getElem hxl]
          rw [addLit, Nat.zero_add, cell_of_row w g j cur (ρ.t 5) (0, 0) hg]
          rw [← htake, List.getElem?_take] at hx2
          split at hx2
          · simpa using hx2
          · cases hx2
        · subst hw
          obtain ⟨f1, f2, f3, f4⟩ := freeze_rest w.drew ⟨g, 0, none⟩ l.length
          have hoth : ∀ k, k < w.heap.size → blk (β rid) ≠ some k → (w.drew.freeze ⟨g, 0, none⟩ l.length).heap[k]? = w.heap[k]? := fun k _ hk => freeze_heap w.drew g l.length k fun e => hk (by rw [hg0, e])
          have hsz : w.heap.size ≤ (w.drew.freeze ⟨g, 0, none⟩ l.length).heap.size := Nat.le_of_eq f4.symm
          have sub : ∀ k o, hget (hdel σ rid) k = some o → hget σ k = some o := by
            intro k o hk
            rw [hget_hdel] at hk
            split at hk
            · cases hk
            · exact hk
          refine ⟨_, _, hdel σ rid, β, ro, n, he, ⟨rfl, rfl⟩, .ofV rfl, h3.drop hr hoth hsz, ⟨f1, f2, f3, hsz, fun k hk ho => hoth k hk fun e => ho ⟨rid, _, hr, rfl, e⟩, fun _ h => .inl h, fun _ h => h, fun k ⟨j, o, hj, hl, hb⟩ => .inl ⟨j, o, sub _ _ hj, hl, hb⟩, fun k hk o hg => ⟨by rw [sub _ _ hg]; simp, rfl⟩, fun k o hg => h5 k o (sub _ _ hg), Nat.le_refl _⟩⟩
theorem HRel.same (h : HRel w ro σ β n) (he : w'.heap = w.heap) : HRel w' ro σ β n := by
 have hro : ∀ b, ro b → w'.heap[b]? = w.heap[b]? := fun b _ => by rw [he]
 have key : ∀ x c, ARel w ro σ β n x c → ARel w' ro σ β n x c := fun x c hx => hx.keep hro (fun _ h => h) (Nat.le_refl _) (fun id t cs hk => ⟨rfl, t, cs, hk⟩) (fun id z t n es hk => ⟨rfl, z, t, es, hk⟩) (fun id Φ hk => ⟨rfl, Φ, hk⟩)
 refine ⟨fun k o hk => ?_, h.inj, h.disj, fun b hb => by rw [he]; exact h.lt b hb⟩
 have hoo := h.objs k o hk
 cases hoo with
 | box t cs b arr h1 h2 h3 h4 => exact .box t cs b arr h1 (by rw [he]; exact h2) h3 fun j x hj => key _ _ (h4 j x hj)
 | row t n es xs h1 h2 h3 => exact .row t n es xs (h1.keep (fun b hb => by rw [he]) (Nat.le_of_eq (by rw [he]))) h2 fun j x hj => (h3 j x hj).keep hro fun _ h => h
 | fro t n es h1 => exact .fro t n es (h1.keep hro fun _ h => h)
 | oth Φ b o h1 h2 h3 => exact .oth Φ b o h1 (by rw [he]; exact h2) (Φ.mono _ _ _ _ (fun x c h => h.keep hro fun _ h => h) h3)
theorem Trans.drew (hx : ∀ id o, hget σ id = some o → id < n) : Trans ⟨w, ro, σ, β, n⟩ w.drew ro σ β n :=
 ⟨rfl, rfl, rfl, Nat.le_refl _, fun _ _ _ => rfl, fun _ h => .inl h, fun _ h => h, fun _ h => .inl h, fun k _ o hg => ⟨by rw [hg]; simp, rfl⟩, hx, Nat.le_refl _⟩
theorem strA_nil (L : Lays.n169 P ρ) (X : Builder.Extra P ρ) {G : Glob} {id : Nat} {x0 : AV} (hid : hget σ id = some (.box (ρ.t 72) [x0, .rv (.v (.slice none 0 0))])) :
    ACalls P G (ρ.f 169) [.ptr id 0] σ n fun r τ => r = .rv (.v (.string ⟨#[]⟩)) ∧ τ = σ := by
  intro w β ro cargs h1 h2 h3 h4 h5
  have hO := h3.objs id _ hid
  cases hO with
  | box _ _ b arr e1 e2 e3 e4 =>
    have hc0 : cargs.getD 0 undef = .pointer (some ⟨b, 0, none⟩) := by
      have := h2 0 _ rfl
      generalize cargs.getD 0 undef = c0 at this ⊢
      cases this with
      | ptr _ _ _ hl hpp =>
        obtain ⟨b', q1, q2⟩ := hpp _ _ hid
        rw [e1] at q1
        cases q1
        exact q2
    have hca : cargs = #[.pointer (some ⟨b, 0, none⟩)] := by
      have hs : cargs.size = 1 := h1
      apply Array.ext
      · simpa using hs
      · intro i hi1 hi2
        have : i = 0 := by omega
        subst this
        simpa [Array.getD, hs] using hc0
    have hrid : arr.getD 1 undef = .slice none 0 0 := ARel.val (e4 1 _ rfl)
    have harr : arr = #[arr.getD 0 undef, .slice none 0 0] := by
      have hs : arr.size = 2 := e3
      apply Array.ext
      · simpa using hs
      · intro i hi1 hi2
        have hi : i = 0 ∨ i = 1 := by omega
        rcases hi with rfl | rfl
        · simp [Array.getD, hs]
        · have := hrid
          simp only [Array.getD, hs] at this
          simpa using this
    rw [hca]
    refine Calls.mono (strN L X b (arr.getD 0 undef) w (by rw [e2, ← harr])) fun e w' ⟨he, hw⟩ => ?_
    subst hw
    exact ⟨_, _, σ, β, ro, n, he, ⟨rfl, rfl⟩, .ofV rfl, h3.same rfl, Trans.drew h5⟩
theorem strA0 (L : Lays.n169 P ρ) (X : Builder.Extra P ρ) {G : Glob} {id : Nat} {x0 : AV} (hid : hget σ id = some (.box (ρ.t 72) [x0, .sl rid])) (hr : hget σ rid = some (.row false (ρ.t 5) 1 [])) :
    ACalls P G (ρ.f 169) [.ptr id 0] σ n fun r τ => r = .rv (.v (.string ⟨#[]⟩)) ∧ τ = hdel σ rid := by
  intro w β ro cargs h1 h2 h3 h4 h5
  have hO := h3.objs id _ hid
  have hR := h3.objs rid _ hr
  cases hO with
  | box _ _ b arr e1 e2 e3 e4 =>
    cases hR with
    | row _ _ _ xs hrow hne hcells =>
      have hc0 : cargs.getD 0 undef = .pointer (some ⟨b, 0, none⟩) := by
        have := h2 0 _ rfl
        generalize cargs.getD 0 undef = c0 at this ⊢
        cases this with
        | ptr _ _ _ hl hpp =>
          obtain ⟨b', q1, q2⟩ := hpp _ _ hid
          rw [e1] at q1
          cases q1
          exact q2
      have hca : cargs = #[.pointer (some ⟨b, 0, none⟩)] := by
        have hs : cargs.size = 1 := h1
        apply Array.ext
        · simpa using hs
        · intro i hi1 hi2
          have : i = 0 := by omega
          subst this
          simpa [Array.getD, hs] using hc0
      have hrid : arr.getD 1 undef = β rid := by
        have := e4 1 _ rfl
        generalize arr.getD 1 undef = c0 at this ⊢
        cases this with
        | sl _ _ _ hp => exact hp _ _ _ _ hr
      have harr : arr = #[arr.getD 0 undef, β rid] := by
        have hs : arr.size = 2 := e3
        apply Array.ext
        · simpa using hs
        · intro i hi1 hi2
          have hi : i = 0 ∨ i = 1 := by omega
          rcases hi with rfl | rfl
          · simp [Array.getD, hs]
          · have := hrid
            simp only [Array.getD, hs] at this
            simpa using this
      have hlt : b < w.heap.size := (Array.getElem?_eq_some_iff.1 e2).1
      have fin : Calls P (ρ.f 169) #[.pointer (some ⟨b, 0, none⟩)] w fun e w' => e = .returned (.string ⟨#[]⟩) ∧ (w' = w.drew ∨ ∃ o, w' = w.drew.alloc o) := by
        rcases hrow.2 with ⟨⟨c, hv, hce⟩, _⟩ | ⟨g, cap, cur, hv, hp, _⟩
        · cases c with
          | none => exact Calls.mono (strN L X b (arr.getD 0 undef) w (by rw [e2, ← hv, ← harr])) fun e w' ⟨he, hw⟩ => ⟨he, .inl hw⟩
          | some ad =>
            obtain ⟨q, w2, hq, hw2⟩ := strSD L ad w.drew (hce ad rfl)
            refine Calls.mono (strE L X b ad q (arr.getD 0 undef) w w2 (by rw [e2, ← hv, ← harr]) ?_ hq) fun e w' ⟨he, hw⟩ => ⟨he, by rw [hw]; exact hw2⟩
            rcases hw2 with rfl | ⟨o, rfl⟩
            · rfl
            · exact Lib.alloc_old w.drew _ b hlt
        · exact Calls.mono (strR L X b g cap (arr.getD 0 undef) w (Nat.ne_of_gt hp) (by rw [e2, ← (show β rid = .slice (some ⟨g, 0, none⟩) 0 cap from hv), ← harr])) fun e w' ⟨he, hw⟩ => ⟨he, .inl hw⟩
      rw [hca]
      refine Calls.mono fin fun e w' ⟨he, hw⟩ => ?_
      have hold : ∀ k, k < w.heap.size → w'.heap[k]? = w.heap[k]? := fun k hk => by
        rcases hw with rfl | ⟨o, rfl⟩
        · rfl
        · exact Lib.alloc_old w.drew _ k hk
      have hsz : w.heap.size ≤ w'.heap.size := by
        rcases hw with rfl | ⟨o, rfl⟩
        · exact Nat.le_refl _
        · show w.heap.size ≤ (w.heap.push _).size
          rw [Array.size_push]
          exact Nat.le_succ _
      have hrest : w'.os = w.os ∧ w'.tape = w.drew.tape ∧ w'.output = w.output := by
        rcases hw with rfl | ⟨o, rfl⟩ <;> exact ⟨rfl, rfl, rfl⟩
      have sub : ∀ k o, hget (hdel σ rid) k = some o → hget σ k = some o := by
        intro k o hk
        rw [hget_hdel] at hk
        split at hk
        · cases hk
        · exact hk
      refine ⟨_, _, hdel σ rid, β, ro, n, he, ⟨rfl, rfl⟩, .ofV rfl, h3.drop hr (fun k hk _ => hold k hk) hsz, ⟨hrest.1, hrest.2.1, hrest.2.2, hsz, fun k hk _ => hold k hk, fun _ h => .inl h, fun _ h => h, fun k ⟨j, o, hj, hl, hb⟩ => .inl ⟨j, o, sub _ _ hj, hl, hb⟩, fun k hk o hg => ⟨by rw [sub _ _ hg]; simp, rfl⟩, fun k o hg => h5 k o (sub _ _ hg), Nat.le_refl _⟩⟩
theorem strAl (L : Lays.n169 P ρ) (X : Builder.Extra P ρ) {G : Glob} {id : Nat} {x0 : AV} {l : List Int} (hid : hget σ id = some (.box (ρ.t 72) [x0, .sl rid])) (hr : hget σ rid = some (.row false (ρ.t 5) 1 (l.map fun z => [.v (.int .u8 z)]))) :
    ACalls P G (ρ.f 169) [.ptr id 0] σ n fun r τ => r = .rv (.v (.string (bytesOf l))) ∧ τ = hdel σ rid := by
  cases l with
  | nil => exact strA0 L X hid hr
  | cons z l => exact strA L X (by simp) hid hr
end
end Go.Av
