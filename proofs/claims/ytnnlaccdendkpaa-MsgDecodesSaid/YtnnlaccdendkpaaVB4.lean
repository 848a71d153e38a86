/- Messages: checks. -/
import Derived.Test.YtnnlaccdendkpaaVB2
namespace Go.Proofs.Ytnnlaccdendkpaa
open Go Go.Av Go.Hh Go.Proofs
set_option maxRecDepth 100000
set_option maxHeartbeats 4000000
theorem foldPush_size : ∀ (l : List Int) (s : ByteArray), (l.foldl (fun r n => r.push (UInt8.ofNat n.toNat)) s).size = s.size + l.length
 | [], s => rfl
 | n :: l, s => by
  rw [List.foldl_cons, foldPush_size l, ByteArray.size_push, List.length_cons]
  omega
theorem bytesOf_size (l : List Int) : (bytesOf l).size = l.length := by
 unfold bytesOf
 rw [foldPush_size]
 show 0 + l.length = l.length
 omega
theorem loopV_len {b : Int × List Int → Step Unit (Int × List Int)} (hb : ∀ x y, b x = .nxt y → y.2.length = x.2.length + 1) (hk : ∀ x y, b x = .brk y → y.2.length = x.2.length) : ∀ (n : Nat) (x : Int × List Int), (loopV b n x).2.length ≤ x.2.length + n := by
 have key : ∀ (n : Nat) (x y : Int × List Int), loopW b n x = .inr y → y.2.length ≤ x.2.length + n := by
  intro n
  induction n with
  | zero => intro x y h; simp only [loopW, Sum.inr.injEq] at h; subst h; omega
  | succ n ih =>
   intro x y h
   unfold loopW at h
   cases hx : b x with
   | ret r => rw [hx] at h; cases h
   | brk z => rw [hx] at h; cases h; have := hk x y hx; omega
   | nxt z => rw [hx] at h; have := ih z y h; have := hb x z hx; omega
 intro n x
 unfold loopV
 cases hl : loopW b n x with
 | inl r => show x.2.length ≤ _; omega
 | inr y => exact key n x y hl
theorem wintM_size (n : Int) : (wintM n).size ≤ 11 := by
 unfold wintM
 rw [bytesOf_size, List.length_append]
 have := loopV_len (b := wintM_B1 n) (fun x y h => by
  unfold wintM_B1 at h
  simp only [cond_eq_ite] at h
  split at h <;> cases h
  simp) (fun x y h => by
  unfold wintM_B1 at h
  simp only [cond_eq_ite] at h
  split at h <;> cases h
  rfl) 10 (xorI .u64 (IntKind.u64.wrap (IntKind.u64.wrap n * 2)) (IntKind.u64.wrap (n.fdiv 9223372036854775808)), [])
 simp only [List.length_nil, Nat.zero_add] at this
 show (loopV (wintM_B1 n) 10 _).2.length + 1 ≤ 11
 omega
theorem cat_le {u v : ByteArray} {a b : Nat} (hu : u.size ≤ a) (hv : v.size ≤ b) (h : a + b ≤ 9223372036854775807) : u.size + v.size ≤ 9223372036854775807 := by omega
def wtextM (s : ByteArray) : ByteArray :=
 ((wintM (s.size : Int)) ++ s)
theorem wtextM_ok (s : ByteArray) (hs : s.size ≤ 1000000) :
 ACalls Try.prog G_ 35 [vs s] [] 0 (fun r τ => r = vs (wtextM s) ∧ τ = []) := by
 refine ACalls.body Try.func35 rfl 8 [(0, vs s)] ?_
 refine AWp.hz [.run 1] 8 [(0, vs s)] [] 0 ?_
 refine AWp.rg ?_
 refine AOps.hz [.run 2, .call 32 [vi (s.size : Int)] (vs (wintM (s.size : Int))) [] 0 (wintM_ok (s.size : Int)), .run 1] 8 [(5, vs (wintM (s.size : Int))), (6, vs s)] [] 0 ?_
 have hc1 : (wintM (s.size : Int)).size + s.size ≤ 9223372036854775807 := by exact cat_le (by first | with_reducible exact wintM_size _ | with_reducible exact rwintM_size _) (Nat.le_refl _) (by omega)
 refine AOps.cat (wintM (s.size : Int)) s (.tmp 5) (.tmp 6) hc1 ?_
 refine AOps.he [.run 1] 8 [(2, vs ((wintM (s.size : Int)) ++ s))] [] 0 ?_
 refine AWp.ret ?_
 exact leafR (r := vs ((wintM (s.size : Int)) ++ s)) (by unfold wtextM; try kernel_rfl)
theorem wtextM_size (s : ByteArray) : (wtextM s).size ≤ 11 + s.size := by
 unfold wtextM
 rw [ByteArray.size_append]
 have := wintM_size (s.size : Int)
 omega
def putM_v1 (v : Val) : Val := (bif (vCheckM v != 0) then (⟨0, 0, ⟨#[]⟩⟩ : Val) else v)
def putM (v : Val) : ByteArray :=
 (bif (((putM_v1 v).kind == 1) || (((putM_v1 v).kind == 2) || ((putM_v1 v).kind == 3))) then ((wintM ((putM_v1 v).kind)) ++ (wintM ((putM_v1 v).n))) else (bif ((putM_v1 v).kind == 4) then ((wintM ((putM_v1 v).kind)) ++ (wtextM ((putM_v1 v).s))) else wintM ((putM_v1 v).kind)))
abbrev putM_c1 (v : Val) : Nat × AObj := (0, .box 53 (avs (Val.cells (putM_v1 v))))
abbrev putM_c2 (v : Val) : Nat × AV := (3, vs (wintM ((putM_v1 v).kind)))
theorem putM_v1_size {v : Val} (h : v.s.size ≤ 1000000) : (putM_v1 v).s.size ≤ 1000000 := by
 unfold putM_v1
 cases (vCheckM v != 0) with
 | true => exact Nat.zero_le _
 | false => exact h
theorem putM_ok (v : Val) (hs : v.s.size ≤ 1000000) :
 ACalls Try.prog G_ 37 [.agg (avs (Val.cells v))] [] 0 (fun r τ => r = vs (putM v) ∧ τ = []) := by
 refine ACalls.body Try.func37 rfl 30 [(0, .agg (avs (Val.cells v)))] ?_
 refine AWp.hz [.run 2] 30 [(1, .ptr 0 0)] [(0, .box 53 (avs (Val.cells v)))] 1 ?_
 refine AWp.join (Z 30 [(1, .ptr 0 0)] [(0, .box 53 (avs (Val.cells (putM_v1 v))))] 1) ?_ ?_
 ·
  refine AWp.hz [.run 1, .call 71 [.agg (avs (Val.cells v))] (vi (vCheckM v)) [] 0 (vCheckM_ok v), .run 1] 30 [(1, .ptr 0 0), (6, vb (vCheckM v != 0))] [(0, .box 53 (avs (Val.cells v)))] 1 ?_
  refine AWp.cnd ((vCheckM v != 0)) (fun h1 => ?_) (fun h1 => ?_)
  ·
   refine AWp.he [.run 2] 30 [(1, .ptr 0 0)] [(0, .box 53 [vi 0, vi 0, vs (⟨#[]⟩)])] 1 ?_
   exact leZ (by rw [putM_v1, h1]; try kernel_rfl)
  ·
   refine AWp.skip ?_
   exact leZ (by rw [putM_v1, h1]; try kernel_rfl)
 ·
  refine AWp.hz [.run 2, .call 32 [vi ((putM_v1 v).kind)] (vs (wintM ((putM_v1 v).kind))) [] 0 (wintM_ok ((putM_v1 v).kind)), .run 1] 30 [(1, .ptr 0 0), (putM_c2 v)] [(putM_c1 v)] 1 ?_
  refine AWp.join (Z 30 [(3, vs (bif (((putM_v1 v).kind == 1) || (((putM_v1 v).kind == 2) || ((putM_v1 v).kind == 3))) then ((wintM ((putM_v1 v).kind)) ++ (wintM ((putM_v1 v).n))) else (bif ((putM_v1 v).kind == 4) then ((wintM ((putM_v1 v).kind)) ++ (wtextM ((putM_v1 v).s))) else wintM ((putM_v1 v).kind))))] [] 1) ?_ ?_
  ·
   refine AWp.hz [.run 2] 30 [(1, .ptr 0 0), (putM_c2 v), (12, vi ((putM_v1 v).kind))] [(putM_c1 v)] 1 ?_
   refine AWp.block ?_
   refine AWp.join (Z 30 [(1, .ptr 0 0), (3, vs (wintM ((putM_v1 v).kind))), (12, vi ((putM_v1 v).kind)), (13, vb (((putM_v1 v).kind == 1) || (((putM_v1 v).kind == 2) || ((putM_v1 v).kind == 3))))] [(0, .box 53 (avs (Val.cells (putM_v1 v))))] 1) ?_ ?_
   ·
    refine AWp.hz [.run 2] 30 [(1, .ptr 0 0), (putM_c2 v), (12, vi ((putM_v1 v).kind)), (13, vb ((putM_v1 v).kind == 1))] [(putM_c1 v)] 1 ?_
    refine AWp.cnd (((putM_v1 v).kind == 1)) (fun h2 => ?_) (fun h2 => ?_)
    ·
     refine AWp.skip ?_
     exact leZ (by rw [h2]; try kernel_rfl)
    ·
     refine AWp.hz [.run 2] 30 [(1, .ptr 0 0), (putM_c2 v), (12, vi ((putM_v1 v).kind)), (13, vb ((putM_v1 v).kind == 2))] [(putM_c1 v)] 1 ?_
     refine AWp.cnd (((putM_v1 v).kind == 2)) (fun h3 => ?_) (fun h3 => ?_)
     ·
      refine AWp.skip ?_
      exact leZ (by rw [h2, h3]; try kernel_rfl)
     ·
      refine AWp.he [.run 2] 30 [(1, .ptr 0 0), (putM_c2 v), (12, vi ((putM_v1 v).kind)), (13, vb ((putM_v1 v).kind == 3))] [(putM_c1 v)] 1 ?_
      exact leZ (by rw [h2, h3]; try kernel_rfl)
   ·
    refine AWp.cnd ((((putM_v1 v).kind == 1) || (((putM_v1 v).kind == 2) || ((putM_v1 v).kind == 3)))) (fun h4 => ?_) (fun h4 => ?_)
    ·
     refine AWp.region ?_
     refine AOps.hz [.run 3, .call 32 [vi ((putM_v1 v).n)] (vs (wintM ((putM_v1 v).n))) [] 0 (wintM_ok ((putM_v1 v).n))] 30 [(17, vs (wintM ((putM_v1 v).kind))), (20, vs (wintM ((putM_v1 v).n)))] [] 1 ?_
     have hc5 : (wintM ((putM_v1 v).kind)).size + (wintM ((putM_v1 v).n)).size ≤ 9223372036854775807 := by exact cat_le (by first | with_reducible exact wintM_size _ | with_reducible exact rwintM_size _ | exact Nat.le_refl _) (by first | with_reducible exact wintM_size _ | with_reducible exact rwintM_size _ | with_reducible exact wtextM_size _ | with_reducible exact rwtextM_size _ | exact Nat.le_refl _) (by first | omega | (have := putM_v1_size (v := v) (by assumption); omega))
     refine AOps.cat (wintM ((putM_v1 v).kind)) (wintM ((putM_v1 v).n)) (.tmp 17) (.tmp 20) hc5 ?_
     refine AOps.he [.run 1] 30 [(3, vs ((wintM ((putM_v1 v).kind)) ++ (wintM ((putM_v1 v).n))))] [] 1 ?_
     exact leZ (by rw [h4]; try kernel_rfl)
    ·
     have h4l := or_fl h4
     have h4r := or_fr h4
     have h4rl := or_fl h4r
     have h4rr := or_fr h4r
     refine AWp.hz [.run 2] 30 [(1, .ptr 0 0), (putM_c2 v), (22, vb ((putM_v1 v).kind == 4))] [(putM_c1 v)] 1 ?_
     refine AWp.cnd (((putM_v1 v).kind == 4)) (fun h6 => ?_) (fun h6 => ?_)
     ·
      refine AWp.region ?_
      refine AOps.hz [.run 3, .call 35 [vs ((putM_v1 v).s)] (vs (wtextM ((putM_v1 v).s))) [] 0 (wtextM_ok ((putM_v1 v).s) (by first | assumption | omega | exact putM_v1_size (by assumption) | exact rputM_v1_size (by assumption)))] 30 [(24, vs (wintM ((putM_v1 v).kind))), (27, vs (wtextM ((putM_v1 v).s)))] [] 1 ?_
      have hc7 : (wintM ((putM_v1 v).kind)).size + (wtextM ((putM_v1 v).s)).size ≤ 9223372036854775807 := by exact cat_le (by first | with_reducible exact wintM_size _ | with_reducible exact rwintM_size _ | exact Nat.le_refl _) (by first | with_reducible exact wintM_size _ | with_reducible exact rwintM_size _ | with_reducible exact wtextM_size _ | with_reducible exact rwtextM_size _ | exact Nat.le_refl _) (by first | omega | (have := putM_v1_size (v := v) (by assumption); omega))
      refine AOps.cat (wintM ((putM_v1 v).kind)) (wtextM ((putM_v1 v).s)) (.tmp 24) (.tmp 27) hc7 ?_
      refine AOps.he [.run 1] 30 [(3, vs ((wintM ((putM_v1 v).kind)) ++ (wtextM ((putM_v1 v).s))))] [] 1 ?_
      exact leZ (by rw [h4, h6]; try kernel_rfl)
     ·
      refine AWp.skip ?_
      exact leZ (by rw [h4, h6]; try kernel_rfl)
  ·
   refine AWp.hz [.run 2] 30 [(2, vs (bif (((putM_v1 v).kind == 1) || (((putM_v1 v).kind == 2) || ((putM_v1 v).kind == 3))) then ((wintM ((putM_v1 v).kind)) ++ (wintM ((putM_v1 v).n))) else (bif ((putM_v1 v).kind == 4) then ((wintM ((putM_v1 v).kind)) ++ (wtextM ((putM_v1 v).s))) else wintM ((putM_v1 v).kind))))] [] 1 ?_
   refine AWp.ret ?_
   exact leafR (r := vs (bif (((putM_v1 v).kind == 1) || (((putM_v1 v).kind == 2) || ((putM_v1 v).kind == 3))) then ((wintM ((putM_v1 v).kind)) ++ (wintM ((putM_v1 v).n))) else (bif ((putM_v1 v).kind == 4) then ((wintM ((putM_v1 v).kind)) ++ (wtextM ((putM_v1 v).s))) else wintM ((putM_v1 v).kind)))) (by unfold putM; try kernel_rfl)
theorem putM_size {v : Val} (h : v.s.size ≤ 1000000) : (putM v).size ≤ 1000022 := by
 have h1 := putM_v1_size h
 have i1 := wintM_size (putM_v1 v).kind
 have i2 := wintM_size (putM_v1 v).n
 have i3 := wtextM_size (putM_v1 v).s
 have i4 := wintM_size 0
 unfold putM
 simp only [cond_eq_ite]
 repeat' split
 all_goals (try rw [ByteArray.size_append])
 all_goals omega
def spareM_B1 (m : MsgV) (k1_ : Nat) : Option Bool :=
 (match (m.data.data.toList)[k1_]? with | some e1_ => (bif decide ((e1_.toNat : Int) > 1) then some true else none) | none => none)
def spareM_L1 (m : MsgV) : Option Bool := scanN (spareM_B1 m) 0 m.data.size
def spareM (m : MsgV) : Bool :=
 (((!(hasItemsM m.kind) && decide ((m.items.length : Int) > 0)) || (bif !(hasEpochM m.kind) then (((m.epoch != 0) || (!(hasNamesM m.kind) && (!beqS m.cluster (⟨#[]⟩) || !beqS m.name (⟨#[]⟩)))) || (!(hasDataM m.kind) && !beqS m.data (⟨#[]⟩))) else ((!(hasNamesM m.kind) && (!beqS m.cluster (⟨#[]⟩) || !beqS m.name (⟨#[]⟩))) || (!(hasDataM m.kind) && !beqS m.data (⟨#[]⟩))))) || ((m.kind == 7) && (spareM_L1 m).getD false))
abbrev spareM_c1 (m : MsgV) : Nat × AObj := (0, .box 24 (avs (MsgV.cells m)))
abbrev spareM_c2 (m : MsgV) : Nat × AV := (57, vi (m.data.size : Int))
theorem spareM_ok (m : MsgV) (hd : m.data.size ≤ 1000000) :
 ACalls Try.prog G_ 22 [.agg (avs (MsgV.cells m))] [] 0 (fun r τ => r = vb (spareM m) ∧ τ = []) := by
 refine ACalls.body Try.func22 rfl 67 [(0, .agg (avs (MsgV.cells m)))] ?_
 refine AWp.hz [.run 2] 67 [(1, .ptr 0 0)] [(spareM_c1 m)] 1 ?_
 refine AWp.seq ?_
 refine AWp.join (Z 67 [(1, .ptr 0 0), (51, vb ((!(hasItemsM m.kind) && decide ((m.items.length : Int) > 0)) || (bif !(hasEpochM m.kind) then (((m.epoch != 0) || (!(hasNamesM m.kind) && (!beqS m.cluster (⟨#[]⟩) || !beqS m.name (⟨#[]⟩)))) || (!(hasDataM m.kind) && !beqS m.data (⟨#[]⟩))) else ((!(hasNamesM m.kind) && (!beqS m.cluster (⟨#[]⟩) || !beqS m.name (⟨#[]⟩))) || (!(hasDataM m.kind) && !beqS m.data (⟨#[]⟩))))))] [(0, .box 24 (avs (MsgV.cells m)))] 1) ?_ ?_
 ·
  refine AWp.region ?_
  refine AOps.hg [.run 2, .call 68 [vi m.kind] (vb (hasItemsM m.kind)) [] 0 (hasItemsM_ok m.kind), .run 2] (!(hasItemsM m.kind)) 67 (fun b_ => [(1, .ptr 0 0), (8, vb b_)]) [(spareM_c1 m)] 1 (fun hg1 => ?_) (fun hg1 => ?_)
  ·
   refine AOps.hzl [.run 2, .len ItemV.cells m.items 7, .run 3] 67 [(1, .ptr 0 0), (14, vb (decide ((m.items.length : Int) > 0)))] [(spareM_c1 m)] 1 (fun hl => ?_)
   obtain ⟨hn2, -⟩ := hl
   refine AOps.hg [] (decide ((m.items.length : Int) > 0)) 67 (fun b_ => [(1, .ptr 0 0), (14, vb b_)]) [(spareM_c1 m)] 1 (fun hg3 => ?_) (fun hg3 => ?_)
   ·
    have hg3' := of_decide_eq_true hg3
    refine AOps.he [.run 37] 67 [(1, .ptr 0 0), (51, vb true)] [(spareM_c1 m)] 1 ?_
    exact leZ (by rw [hg1, hg3]; try kernel_rfl)
   ·
    have hg3' := of_decide_eq_false hg3
    refine AOps.hg [.run 2, .call 69 [vi m.kind] (vb (hasEpochM m.kind)) [] 0 (hasEpochM_ok m.kind), .run 2] (!(hasEpochM m.kind)) 67 (fun b_ => [(1, .ptr 0 0), (14, vb false), (19, vb b_)]) [(spareM_c1 m)] 1 (fun hg4 => ?_) (fun hg4 => ?_)
    ·
     refine AOps.hg [.run 6] ((m.epoch != 0)) 67 (fun b_ => [(1, .ptr 0 0), (25, vb b_)]) [(spareM_c1 m)] 1 (fun hg5 => ?_) (fun hg5 => ?_)
     ·
      refine AOps.he [.run 26] 67 [(1, .ptr 0 0), (51, vb true)] [(spareM_c1 m)] 1 ?_
      exact leZ (by rw [hg1, hg3, hg4, hg5]; try kernel_rfl)
     ·
      refine AOps.hg [.run 2, .call 25 [vi m.kind] (vb (hasNamesM m.kind)) [] 0 (hasNamesM_ok m.kind), .run 2] (!(hasNamesM m.kind)) 67 (fun b_ => [(1, .ptr 0 0), (25, vb false), (30, vb b_)]) [(spareM_c1 m)] 1 (fun hg6 => ?_) (fun hg6 => ?_)
      ·
       refine AOps.hg [.run 4] (!beqS m.cluster (⟨#[]⟩)) 67 (fun b_ => [(1, .ptr 0 0), (25, vb false), (30, vb true), (34, vb b_)]) [(spareM_c1 m)] 1 (fun hg7 => ?_) (fun hg7 => ?_)
       ·
        refine AOps.he [.run 17] 67 [(1, .ptr 0 0), (51, vb true)] [(spareM_c1 m)] 1 ?_
        exact leZ (by rw [hg1, hg3, hg4, hg5, hg6, hg7]; try kernel_rfl)
       ·
        refine AOps.hg [.run 7] (!beqS m.name (⟨#[]⟩)) 67 (fun b_ => [(1, .ptr 0 0), (41, vb b_)]) [(spareM_c1 m)] 1 (fun hg8 => ?_) (fun hg8 => ?_)
        ·
         refine AOps.he [.run 10] 67 [(1, .ptr 0 0), (51, vb true)] [(spareM_c1 m)] 1 ?_
         exact leZ (by rw [hg1, hg3, hg4, hg5, hg6, hg7, hg8]; try kernel_rfl)
        ·
         refine AOps.hg [.run 2, .call 70 [vi m.kind] (vb (hasDataM m.kind)) [] 0 (hasDataM_ok m.kind), .run 2] (!(hasDataM m.kind)) 67 (fun b_ => [(1, .ptr 0 0), (41, vb false), (46, vb b_)]) [(spareM_c1 m)] 1 (fun hg9 => ?_) (fun hg9 => ?_)
         ·
          refine AOps.he [.run 5] 67 [(1, .ptr 0 0), (51, vb (!beqS m.data (⟨#[]⟩)))] [(spareM_c1 m)] 1 ?_
          exact leZ (by rw [hg1, hg3, hg4, hg5, hg6, hg7, hg8, hg9]; try kernel_rfl)
         ·
          refine AOps.he [.run 5] 67 [(1, .ptr 0 0), (51, vb false)] [(spareM_c1 m)] 1 ?_
          exact leZ (by rw [hg1, hg3, hg4, hg5, hg6, hg7, hg8, hg9]; try kernel_rfl)
      ·
       refine AOps.hg [.run 13, .call 70 [vi m.kind] (vb (hasDataM m.kind)) [] 0 (hasDataM_ok m.kind), .run 2] (!(hasDataM m.kind)) 67 (fun b_ => [(1, .ptr 0 0), (41, vb false), (46, vb b_)]) [(spareM_c1 m)] 1 (fun hg10 => ?_) (fun hg10 => ?_)
       ·
        refine AOps.he [.run 5] 67 [(1, .ptr 0 0), (51, vb (!beqS m.data (⟨#[]⟩)))] [(spareM_c1 m)] 1 ?_
        exact leZ (by rw [hg1, hg3, hg4, hg5, hg6, hg10]; try kernel_rfl)
       ·
        refine AOps.he [.run 5] 67 [(1, .ptr 0 0), (51, vb false)] [(spareM_c1 m)] 1 ?_
        exact leZ (by rw [hg1, hg3, hg4, hg5, hg6, hg10]; try kernel_rfl)
    ·
     refine AOps.hg [.run 8, .call 25 [vi m.kind] (vb (hasNamesM m.kind)) [] 0 (hasNamesM_ok m.kind), .run 2] (!(hasNamesM m.kind)) 67 (fun b_ => [(1, .ptr 0 0), (25, vb false), (30, vb b_)]) [(spareM_c1 m)] 1 (fun hg11 => ?_) (fun hg11 => ?_)
     ·
      refine AOps.hg [.run 4] (!beqS m.cluster (⟨#[]⟩)) 67 (fun b_ => [(1, .ptr 0 0), (25, vb false), (30, vb true), (34, vb b_)]) [(spareM_c1 m)] 1 (fun hg12 => ?_) (fun hg12 => ?_)
      ·
       refine AOps.he [.run 17] 67 [(1, .ptr 0 0), (51, vb true)] [(spareM_c1 m)] 1 ?_
       exact leZ (by rw [hg1, hg3, hg4, hg11, hg12]; try kernel_rfl)
      ·
       refine AOps.hg [.run 7] (!beqS m.name (⟨#[]⟩)) 67 (fun b_ => [(1, .ptr 0 0), (41, vb b_)]) [(spareM_c1 m)] 1 (fun hg13 => ?_) (fun hg13 => ?_)
       ·
        refine AOps.he [.run 10] 67 [(1, .ptr 0 0), (51, vb true)] [(spareM_c1 m)] 1 ?_
        exact leZ (by rw [hg1, hg3, hg4, hg11, hg12, hg13]; try kernel_rfl)
       ·
        refine AOps.hg [.run 2, .call 70 [vi m.kind] (vb (hasDataM m.kind)) [] 0 (hasDataM_ok m.kind), .run 2] (!(hasDataM m.kind)) 67 (fun b_ => [(1, .ptr 0 0), (41, vb false), (46, vb b_)]) [(spareM_c1 m)] 1 (fun hg14 => ?_) (fun hg14 => ?_)
        ·
         refine AOps.he [.run 5] 67 [(1, .ptr 0 0), (51, vb (!beqS m.data (⟨#[]⟩)))] [(spareM_c1 m)] 1 ?_
         exact leZ (by rw [hg1, hg3, hg4, hg11, hg12, hg13, hg14]; try kernel_rfl)
        ·
         refine AOps.he [.run 5] 67 [(1, .ptr 0 0), (51, vb false)] [(spareM_c1 m)] 1 ?_
         exact leZ (by rw [hg1, hg3, hg4, hg11, hg12, hg13, hg14]; try kernel_rfl)
     ·
      refine AOps.hg [.run 13, .call 70 [vi m.kind] (vb (hasDataM m.kind)) [] 0 (hasDataM_ok m.kind), .run 2] (!(hasDataM m.kind)) 67 (fun b_ => [(1, .ptr 0 0), (41, vb false), (46, vb b_)]) [(spareM_c1 m)] 1 (fun hg15 => ?_) (fun hg15 => ?_)
      ·
       refine AOps.he [.run 5] 67 [(1, .ptr 0 0), (51, vb (!beqS m.data (⟨#[]⟩)))] [(spareM_c1 m)] 1 ?_
       exact leZ (by rw [hg1, hg3, hg4, hg11, hg15]; try kernel_rfl)
      ·
       refine AOps.he [.run 5] 67 [(1, .ptr 0 0), (51, vb false)] [(spareM_c1 m)] 1 ?_
       exact leZ (by rw [hg1, hg3, hg4, hg11, hg15]; try kernel_rfl)
  ·
   refine AOps.hg [.run 8, .call 69 [vi m.kind] (vb (hasEpochM m.kind)) [] 0 (hasEpochM_ok m.kind), .run 2] (!(hasEpochM m.kind)) 67 (fun b_ => [(1, .ptr 0 0), (14, vb false), (19, vb b_)]) [(spareM_c1 m)] 1 (fun hg16 => ?_) (fun hg16 => ?_)
   ·
    refine AOps.hg [.run 6] ((m.epoch != 0)) 67 (fun b_ => [(1, .ptr 0 0), (25, vb b_)]) [(spareM_c1 m)] 1 (fun hg17 => ?_) (fun hg17 => ?_)
    ·
     refine AOps.he [.run 26] 67 [(1, .ptr 0 0), (51, vb true)] [(spareM_c1 m)] 1 ?_
     exact leZ (by rw [hg1, hg16, hg17]; try kernel_rfl)
    ·
     refine AOps.hg [.run 2, .call 25 [vi m.kind] (vb (hasNamesM m.kind)) [] 0 (hasNamesM_ok m.kind), .run 2] (!(hasNamesM m.kind)) 67 (fun b_ => [(1, .ptr 0 0), (25, vb false), (30, vb b_)]) [(spareM_c1 m)] 1 (fun hg18 => ?_) (fun hg18 => ?_)
     ·
      refine AOps.hg [.run 4] (!beqS m.cluster (⟨#[]⟩)) 67 (fun b_ => [(1, .ptr 0 0), (25, vb false), (30, vb true), (34, vb b_)]) [(spareM_c1 m)] 1 (fun hg19 => ?_) (fun hg19 => ?_)
      ·
       refine AOps.he [.run 17] 67 [(1, .ptr 0 0), (51, vb true)] [(spareM_c1 m)] 1 ?_
       exact leZ (by rw [hg1, hg16, hg17, hg18, hg19]; try kernel_rfl)
      ·
       refine AOps.hg [.run 7] (!beqS m.name (⟨#[]⟩)) 67 (fun b_ => [(1, .ptr 0 0), (41, vb b_)]) [(spareM_c1 m)] 1 (fun hg20 => ?_) (fun hg20 => ?_)
       ·
        refine AOps.he [.run 10] 67 [(1, .ptr 0 0), (51, vb true)] [(spareM_c1 m)] 1 ?_
        exact leZ (by rw [hg1, hg16, hg17, hg18, hg19, hg20]; try kernel_rfl)
       ·
        refine AOps.hg [.run 2, .call 70 [vi m.kind] (vb (hasDataM m.kind)) [] 0 (hasDataM_ok m.kind), .run 2] (!(hasDataM m.kind)) 67 (fun b_ => [(1, .ptr 0 0), (41, vb false), (46, vb b_)]) [(spareM_c1 m)] 1 (fun hg21 => ?_) (fun hg21 => ?_)
        ·
         refine AOps.he [.run 5] 67 [(1, .ptr 0 0), (51, vb (!beqS m.data (⟨#[]⟩)))] [(spareM_c1 m)] 1 ?_
         exact leZ (by rw [hg1, hg16, hg17, hg18, hg19, hg20, hg21]; try kernel_rfl)
        ·
         refine AOps.he [.run 5] 67 [(1, .ptr 0 0), (51, vb false)] [(spareM_c1 m)] 1 ?_
         exact leZ (by rw [hg1, hg16, hg17, hg18, hg19, hg20, hg21]; try kernel_rfl)
     ·
      refine AOps.hg [.run 13, .call 70 [vi m.kind] (vb (hasDataM m.kind)) [] 0 (hasDataM_ok m.kind), .run 2] (!(hasDataM m.kind)) 67 (fun b_ => [(1, .ptr 0 0), (41, vb false), (46, vb b_)]) [(spareM_c1 m)] 1 (fun hg22 => ?_) (fun hg22 => ?_)
      ·
       refine AOps.he [.run 5] 67 [(1, .ptr 0 0), (51, vb (!beqS m.data (⟨#[]⟩)))] [(spareM_c1 m)] 1 ?_
       exact leZ (by rw [hg1, hg16, hg17, hg18, hg22]; try kernel_rfl)
      ·
       refine AOps.he [.run 5] 67 [(1, .ptr 0 0), (51, vb false)] [(spareM_c1 m)] 1 ?_
       exact leZ (by rw [hg1, hg16, hg17, hg18, hg22]; try kernel_rfl)
   ·
    refine AOps.hg [.run 8, .call 25 [vi m.kind] (vb (hasNamesM m.kind)) [] 0 (hasNamesM_ok m.kind), .run 2] (!(hasNamesM m.kind)) 67 (fun b_ => [(1, .ptr 0 0), (25, vb false), (30, vb b_)]) [(spareM_c1 m)] 1 (fun hg23 => ?_) (fun hg23 => ?_)
    ·
     refine AOps.hg [.run 4] (!beqS m.cluster (⟨#[]⟩)) 67 (fun b_ => [(1, .ptr 0 0), (25, vb false), (30, vb true), (34, vb b_)]) [(spareM_c1 m)] 1 (fun hg24 => ?_) (fun hg24 => ?_)
     ·
      refine AOps.he [.run 17] 67 [(1, .ptr 0 0), (51, vb true)] [(spareM_c1 m)] 1 ?_
      exact leZ (by rw [hg1, hg16, hg23, hg24]; try kernel_rfl)
     ·
      refine AOps.hg [.run 7] (!beqS m.name (⟨#[]⟩)) 67 (fun b_ => [(1, .ptr 0 0), (41, vb b_)]) [(spareM_c1 m)] 1 (fun hg25 => ?_) (fun hg25 => ?_)
      ·
       refine AOps.he [.run 10] 67 [(1, .ptr 0 0), (51, vb true)] [(spareM_c1 m)] 1 ?_
       exact leZ (by rw [hg1, hg16, hg23, hg24, hg25]; try kernel_rfl)
      ·
       refine AOps.hg [.run 2, .call 70 [vi m.kind] (vb (hasDataM m.kind)) [] 0 (hasDataM_ok m.kind), .run 2] (!(hasDataM m.kind)) 67 (fun b_ => [(1, .ptr 0 0), (41, vb false), (46, vb b_)]) [(spareM_c1 m)] 1 (fun hg26 => ?_) (fun hg26 => ?_)
       ·
        refine AOps.he [.run 5] 67 [(1, .ptr 0 0), (51, vb (!beqS m.data (⟨#[]⟩)))] [(spareM_c1 m)] 1 ?_
        exact leZ (by rw [hg1, hg16, hg23, hg24, hg25, hg26]; try kernel_rfl)
       ·
        refine AOps.he [.run 5] 67 [(1, .ptr 0 0), (51, vb false)] [(spareM_c1 m)] 1 ?_
        exact leZ (by rw [hg1, hg16, hg23, hg24, hg25, hg26]; try kernel_rfl)
    ·
     refine AOps.hg [.run 13, .call 70 [vi m.kind] (vb (hasDataM m.kind)) [] 0 (hasDataM_ok m.kind), .run 2] (!(hasDataM m.kind)) 67 (fun b_ => [(1, .ptr 0 0), (41, vb false), (46, vb b_)]) [(spareM_c1 m)] 1 (fun hg27 => ?_) (fun hg27 => ?_)
     ·
      refine AOps.he [.run 5] 67 [(1, .ptr 0 0), (51, vb (!beqS m.data (⟨#[]⟩)))] [(spareM_c1 m)] 1 ?_
      exact leZ (by rw [hg1, hg16, hg23, hg27]; try kernel_rfl)
     ·
      refine AOps.he [.run 5] 67 [(1, .ptr 0 0), (51, vb false)] [(spareM_c1 m)] 1 ?_
      exact leZ (by rw [hg1, hg16, hg23, hg27]; try kernel_rfl)
 ·
  refine AWp.cnd (((!(hasItemsM m.kind) && decide ((m.items.length : Int) > 0)) || (bif !(hasEpochM m.kind) then (((m.epoch != 0) || (!(hasNamesM m.kind) && (!beqS m.cluster (⟨#[]⟩) || !beqS m.name (⟨#[]⟩)))) || (!(hasDataM m.kind) && !beqS m.data (⟨#[]⟩))) else ((!(hasNamesM m.kind) && (!beqS m.cluster (⟨#[]⟩) || !beqS m.name (⟨#[]⟩))) || (!(hasDataM m.kind) && !beqS m.data (⟨#[]⟩)))))) (fun h28 => ?_) (fun h28 => ?_)
  ·
   refine AWp.hz [.run 1] 67 [(2, vb true)] [] 1 ?_
   refine AWp.ret ?_
   exact leafR (r := vb true) (by unfold spareM; (try rw [h28]); try kernel_rfl)
  ·
   have h28l := or_fl h28
   have h28r := or_fr h28
   refine AWp.skip ?_
   refine AWp.seq ?_
   refine AWp.hz [.run 3] 67 [(1, .ptr 0 0), (54, vb (m.kind == 7))] [(spareM_c1 m)] 1 ?_
   refine AWp.cnd ((m.kind == 7)) (fun h29 => ?_) (fun h29 => ?_)
   ·
    refine AWp.hz [.run 4] 67 [(1, .ptr 0 0), (spareM_c2 m), (58, vi 0)] [(spareM_c1 m)] 1 ?_
    refine AWp.block ?_
    refine AWp.loop (ι := Nat) (fun k1_ => Z 67 [(1, .ptr 0 0), (spareM_c2 m), (58, vi (k1_ : Int))] [(spareM_c1 m)] 1) (fun k1_ => k1_ ≤ m.data.size ∧ spareM_L1 m = scanN (spareM_B1 m) k1_ (m.data.size - k1_)) (fun k1_ => m.data.size - k1_) 0 leZ ⟨Nat.zero_le _, rfl⟩ ?_
    intro k1_ ⟨hk1_, hs1_⟩
    refine AWp.hz [.run 1] 67 [(1, .ptr 0 0), (spareM_c2 m), (58, vi (k1_ : Int)), (59, vb (decide ((k1_ : Int) < (m.data.size : Int))))] [(spareM_c1 m)] 1 ?_
    refine AWp.seq ?_
    refine AWp.cnd (decide ((k1_ : Int) < (m.data.size : Int))) (fun h30 => ?_) (fun h30 => ?_)
    ·
     have h30' := of_decide_eq_true h30
     refine AWp.skip ?_
     refine AWp.seq ?_
     refine AWp.block ?_
     refine AWp.hz [.run 2] 67 [(1, .ptr 0 0), (3, vi (k1_ : Int)), (spareM_c2 m), (58, vi (k1_ : Int))] [(spareM_c1 m)] 1 ?_
     obtain ⟨e1_, he1_⟩ : ∃ e_, (m.data.data.toList)[k1_]? = some e_ := byteAt (by omega)
     refine AWp.hz [.run 3, .idxS m.data k1_ e1_ he1_, .run 1] 67 [(1, .ptr 0 0), (spareM_c2 m), (58, vi (k1_ : Int)), (65, vb (decide ((e1_.toNat : Int) > 1)))] [(spareM_c1 m)] 1 ?_
     refine AWp.cnd (decide ((e1_.toNat : Int) > 1)) (fun h31 => ?_) (fun h31 => ?_)
     ·
      have h31' := of_decide_eq_true h31
      refine AWp.hz [.run 1] 67 [(2, vb true)] [] 1 ?_
      refine AWp.ret ?_
      have hL1_ : spareM_L1 m = some true := scanN_some hs1_ (by omega) (by unfold spareM_B1; (try simp only [he1_]); (try rw [h30]); (try rw [h31]); try kernel_rfl)
      exact leafR (r := vb true) (by unfold spareM; (try rw [h28]); (try rw [h29]); (try rw [hL1_]); try kernel_rfl)
     ·
      have h31' := of_decide_eq_false h31
      refine AWp.skip ?_
      refine AWp.he [.cast (vi (IntKind.i64.wrap ((k1_ : Int) + 1))) (vi ((k1_ + 1 : Nat) : Int)) (congrArg vi (wrap_nat (by omega))), .run 1] 67 [(1, .ptr 0 0), (spareM_c2 m), (58, vi ((k1_ + 1 : Nat) : Int))] [(spareM_c1 m)] 1 ?_
      exact ⟨k1_ + 1, ⟨by omega, scanN_none hs1_ (by omega) (by unfold spareM_B1; (try simp only [he1_]); (try rw [h30]); (try rw [h31]); try kernel_rfl)⟩, by omega, leG⟩
    ·
     have h30' := of_decide_eq_false h30
     refine AWp.exit ?_
     have hL1_ : spareM_L1 m = none := scanN_end hs1_ (by omega)
     refine AWp.hz [.run 1] 67 [(2, vb false)] [] 1 ?_
     refine AWp.ret ?_
     exact leafR (r := vb false) (by unfold spareM; (try rw [h28]); (try rw [h29]); (try rw [hL1_]); try kernel_rfl)
   ·
    refine AWp.skip ?_
    refine AWp.hz [.run 1] 67 [(2, vb false)] [] 1 ?_
    refine AWp.ret ?_
    exact leafR (r := vb false) (by unfold spareM; (try rw [h28]); (try rw [h29]); try kernel_rfl)
def itemM (x : ItemV) (n : Int) : Int :=
 (bif (x.key.dev != n) then 1 else (bif (!(validM x.key.cluster) || !(validM x.key.attr)) then 10 else (bif (vCheckM x.value != 0) then vCheckM x.value else (bif !(countedM x.version) then 2 else 0))))
abbrev itemM_c1 (x : ItemV) : Nat × AObj := (0, .box 55 (avs (ItemV.cells x)))
theorem itemM_ok (x : ItemV) (n : Int) :
 ACalls Try.prog G_ 23 [.agg (avs (ItemV.cells x)), vi n] [] 0 (fun r τ => r = vi (itemM x n) ∧ τ = []) := by
 refine ACalls.body Try.func23 rfl 33 [(0, .agg (avs (ItemV.cells x))), (1, vi n)] ?_
 refine AWp.hz [.run 2] 33 [(1, vi n), (2, .ptr 0 0)] [(itemM_c1 x)] 1 ?_
 refine AWp.seq ?_
 refine AWp.hz [.run 5] 33 [(2, .ptr 0 0), (10, vb (x.key.dev != n))] [(itemM_c1 x)] 1 ?_
 refine AWp.cnd ((x.key.dev != n)) (fun h1 => ?_) (fun h1 => ?_)
 ·
  refine AWp.hz [.run 1] 33 [(4, vi 1)] [] 1 ?_
  refine AWp.ret ?_
  exact leafR (r := vi 1) (by unfold itemM; (try rw [h1]); try kernel_rfl)
 ·
  refine AWp.skip ?_
  refine AWp.seq ?_
  refine AWp.join (Z 33 [(2, .ptr 0 0), (22, vb (!(validM x.key.cluster) || !(validM x.key.attr)))] [(0, .box 55 (avs (ItemV.cells x)))] 1) ?_ ?_
  ·
   refine AWp.region ?_
   refine AOps.hg [.run 3, .call 26 [vs x.key.cluster] (vb (validM x.key.cluster)) [] 0 (validM_ok x.key.cluster), .run 2] (!(validM x.key.cluster)) 33 (fun b_ => [(2, .ptr 0 0), (16, vb b_)]) [(itemM_c1 x)] 1 (fun hg2 => ?_) (fun hg2 => ?_)
   ·
    refine AOps.he [.run 6] 33 [(2, .ptr 0 0), (22, vb true)] [(itemM_c1 x)] 1 ?_
    exact leZ (by rw [hg2]; try kernel_rfl)
   ·
    refine AOps.he [.run 3, .call 26 [vs x.key.attr] (vb (validM x.key.attr)) [] 0 (validM_ok x.key.attr), .run 2] 33 [(2, .ptr 0 0), (22, vb (!(validM x.key.attr)))] [(itemM_c1 x)] 1 ?_
    exact leZ (by rw [hg2]; try kernel_rfl)
  ·
   refine AWp.cnd ((!(validM x.key.cluster) || !(validM x.key.attr))) (fun h3 => ?_) (fun h3 => ?_)
   ·
    refine AWp.hz [.run 1] 33 [(4, vi 10)] [] 1 ?_
    refine AWp.ret ?_
    exact leafR (r := vi 10) (by unfold itemM; (try rw [h1]); (try rw [h3]); try kernel_rfl)
   ·
    refine AWp.skip ?_
    refine AWp.seq ?_
    refine AWp.hz [.run 2, .call 71 [.agg [vi x.value.kind, vi x.value.n, vs x.value.s]] (vi (vCheckM x.value)) [] 0 (vCheckM_ok x.value), .run 1] 33 [(2, .ptr 0 0), (5, vi (vCheckM x.value))] [(itemM_c1 x)] 1 ?_
    refine AWp.hz [.run 2] 33 [(2, .ptr 0 0), (5, vi (vCheckM x.value)), (27, vb (vCheckM x.value != 0))] [(itemM_c1 x)] 1 ?_
    refine AWp.cnd ((vCheckM x.value != 0)) (fun h4 => ?_) (fun h4 => ?_)
    ·
     refine AWp.hz [.run 2] 33 [(4, vi (vCheckM x.value))] [] 1 ?_
     refine AWp.ret ?_
     exact leafR (r := vi (vCheckM x.value)) (by unfold itemM; (try rw [h1]); (try rw [h3]); (try rw [h4]); try kernel_rfl)
    ·
     refine AWp.skip ?_
     refine AWp.seq ?_
     refine AWp.hz [.run 2, .call 21 [vi x.version] (vb (countedM x.version)) [] 0 (countedM_ok x.version), .run 1] 33 [(32, vb (!(countedM x.version)))] [] 1 ?_
     refine AWp.cnd (!(countedM x.version)) (fun h5 => ?_) (fun h5 => ?_)
     ·
      refine AWp.hz [.run 1] 33 [(4, vi 2)] [] 1 ?_
      refine AWp.ret ?_
      exact leafR (r := vi 2) (by unfold itemM; (try rw [h1]); (try rw [h3]); (try rw [h4]); (try rw [h5]); try kernel_rfl)
     ·
      refine AWp.skip ?_
      refine AWp.hz [.run 1] 33 [(4, vi 0)] [] 1 ?_
      refine AWp.ret ?_
      exact leafR (r := vi 0) (by unfold itemM; (try rw [h1]); (try rw [h3]); (try rw [h4]); (try rw [h5]); try kernel_rfl)
def lessM (a b : KeyV) : Bool :=
 (bif (a.dev != b.dev) then decide (a.dev < b.dev) else (bif !beqS a.cluster b.cluster then ltS a.cluster b.cluster else ltS a.attr b.attr))
theorem lessM_ok (a b : KeyV) :
 ACalls Try.prog G_ 24 [.agg (avs (KeyV.cells a)), .agg (avs (KeyV.cells b))] [] 0 (fun r τ => r = vb (lessM a b) ∧ τ = []) := by
 refine ACalls.body Try.func24 rfl 30 [(0, .agg (avs (KeyV.cells a))), (1, .agg (avs (KeyV.cells b)))] ?_
 refine AWp.hz [.run 3] 30 [(2, .ptr 0 0), (3, .ptr 1 0)] [(1, .box 51 (avs (KeyV.cells b))), (0, .box 51 (avs (KeyV.cells a)))] 2 ?_
 refine AWp.seq ?_
 refine AWp.hz [.run 5] 30 [(2, .ptr 0 0), (3, .ptr 1 0), (9, vb (a.dev != b.dev))] [(1, .box 51 (avs (KeyV.cells b))), (0, .box 51 (avs (KeyV.cells a)))] 2 ?_
 refine AWp.cnd ((a.dev != b.dev)) (fun h1 => ?_) (fun h1 => ?_)
 ·
  refine AWp.hz [.run 6] 30 [(4, vb (decide (a.dev < b.dev)))] [] 2 ?_
  refine AWp.ret ?_
  exact leafR (r := vb (decide (a.dev < b.dev))) (by unfold lessM; (try rw [h1]); try kernel_rfl)
 ·
  refine AWp.skip ?_
  refine AWp.seq ?_
  refine AWp.hz [.run 5] 30 [(2, .ptr 0 0), (3, .ptr 1 0), (19, vb (!beqS a.cluster b.cluster))] [(1, .box 51 (avs (KeyV.cells b))), (0, .box 51 (avs (KeyV.cells a)))] 2 ?_
  refine AWp.cnd (!beqS a.cluster b.cluster) (fun h2 => ?_) (fun h2 => ?_)
  ·
   refine AWp.hz [.run 6] 30 [(4, vb (ltS a.cluster b.cluster))] [] 2 ?_
   refine AWp.ret ?_
   exact leafR (r := vb (ltS a.cluster b.cluster)) (by unfold lessM; (try rw [h1]); (try rw [h2]); try kernel_rfl)
  ·
   refine AWp.skip ?_
   refine AWp.hz [.run 6] 30 [(4, vb (ltS a.attr b.attr))] [] 2 ?_
   refine AWp.ret ?_
   exact leafR (r := vb (ltS a.attr b.attr)) (by unfold lessM; (try rw [h1]); (try rw [h2]); try kernel_rfl)
def rlessM (a b : KeyV) : Bool :=
 (bif (a.dev != b.dev) then decide (a.dev < b.dev) else (bif !beqS a.cluster b.cluster then ltS a.cluster b.cluster else ltS a.attr b.attr))
theorem rlessM_ok (a b : KeyV) :
 ACalls Try.prog G_ 74 [.agg (avs (KeyV.cells a)), .agg (avs (KeyV.cells b))] [] 0 (fun r τ => r = vb (rlessM a b) ∧ τ = []) := by
 refine ACalls.body Try.func74 rfl 30 [(0, .agg (avs (KeyV.cells a))), (1, .agg (avs (KeyV.cells b)))] ?_
 refine AWp.hz [.run 3] 30 [(2, .ptr 0 0), (3, .ptr 1 0)] [(1, .box 51 (avs (KeyV.cells b))), (0, .box 51 (avs (KeyV.cells a)))] 2 ?_
 refine AWp.seq ?_
 refine AWp.hz [.run 5] 30 [(2, .ptr 0 0), (3, .ptr 1 0), (9, vb (a.dev != b.dev))] [(1, .box 51 (avs (KeyV.cells b))), (0, .box 51 (avs (KeyV.cells a)))] 2 ?_
 refine AWp.cnd ((a.dev != b.dev)) (fun h1 => ?_) (fun h1 => ?_)
 ·
  refine AWp.hz [.run 6] 30 [(4, vb (decide (a.dev < b.dev)))] [] 2 ?_
  refine AWp.ret ?_
  exact leafR (r := vb (decide (a.dev < b.dev))) (by unfold rlessM; (try rw [h1]); try kernel_rfl)
 ·
  refine AWp.skip ?_
  refine AWp.seq ?_
  refine AWp.hz [.run 5] 30 [(2, .ptr 0 0), (3, .ptr 1 0), (19, vb (!beqS a.cluster b.cluster))] [(1, .box 51 (avs (KeyV.cells b))), (0, .box 51 (avs (KeyV.cells a)))] 2 ?_
  refine AWp.cnd (!beqS a.cluster b.cluster) (fun h2 => ?_) (fun h2 => ?_)
  ·
   refine AWp.hz [.run 6] 30 [(4, vb (ltS a.cluster b.cluster))] [] 2 ?_
   refine AWp.ret ?_
   exact leafR (r := vb (ltS a.cluster b.cluster)) (by unfold rlessM; (try rw [h1]); (try rw [h2]); try kernel_rfl)
  ·
   refine AWp.skip ?_
   refine AWp.hz [.run 6] 30 [(4, vb (ltS a.attr b.attr))] [] 2 ?_
   refine AWp.ret ?_
   exact leafR (r := vb (ltS a.attr b.attr)) (by unfold rlessM; (try rw [h1]); (try rw [h2]); try kernel_rfl)
def mCheckM_B1 (m : MsgV) (k1_ : Nat) : Option Int :=
 (match (m.items)[k1_]? with | some e1_ => (bif (itemM e1_ m.dev != 0) then some (itemM e1_ m.dev) else (bif decide ((k1_ : Int) > 0) then (match (m.items)[(IntKind.i64.wrap ((k1_ : Int) - 1)).toNat]? with | some e2_ => (bif !(lessM e2_.key e1_.key) then some 14 else none) | none => none) else none)) | none => none)
def mCheckM_L1 (m : MsgV) : Option Int := scanN (mCheckM_B1 m) 0 m.items.length
def mCheckM (m : MsgV) : Int :=
 (bif (decide (m.kind < 1) || decide (m.kind > 7)) then 7 else (bif ((decide (m.dev < 1) || (decide (m.dev > 250) || !(countedM m.epoch))) || !(countedM m.version)) then 2 else (bif ((decide ((m.items.length : Int) > 7) || decide ((m.data.size : Int) > 512)) || ((m.kind == 7) && decide ((m.data.size : Int) > 64))) then 3 else (bif spareM m then 4 else (mCheckM_L1 m).getD (bif (hasNamesM m.kind && (!(validM m.cluster) || !(validM m.name))) then 10 else 0)))))
abbrev mCheckM_c1 (m : MsgV) : Nat × AObj := (0, .box 24 (avs (MsgV.cells m)))
abbrev mCheckM_c2 (m : MsgV) : Nat × AV := (62, .rv (.sl 7 (m.items.map ItemV.cells)))
abbrev mCheckM_c3 (m : MsgV) : Nat × AV := (63, vi (m.items.length : Int))
theorem mCheckM_ok (m : MsgV) (hd : m.data.size ≤ 1000000) :
 ACalls Try.prog G_ 11 [.agg (avs (MsgV.cells m))] [] 0 (fun r τ => r = vi (mCheckM m) ∧ τ = []) := by
 refine ACalls.body Try.func11 rfl 107 [(0, .agg (avs (MsgV.cells m)))] ?_
 refine AWp.hz [.run 2] 107 [(1, .ptr 0 0)] [(mCheckM_c1 m)] 1 ?_
 refine AWp.seq ?_
 refine AWp.block ?_
 refine AWp.join (Z 107 [(1, .ptr 0 0), (6, vb (decide (m.kind < 1) || decide (m.kind > 7)))] [(0, .box 24 (avs (MsgV.cells m)))] 1) ?_ ?_
 ·
  refine AWp.region ?_
  refine AOps.hg [.run 4] (decide (m.kind < 1)) 107 (fun b_ => [(1, .ptr 0 0), (10, vb b_)]) [(mCheckM_c1 m)] 1 (fun hg1 => ?_) (fun hg1 => ?_)
  ·
   have hg1' := of_decide_eq_true hg1
   refine AOps.he [.run 5] 107 [(1, .ptr 0 0), (6, vb true)] [(mCheckM_c1 m)] 1 ?_
   exact leZ (by rw [hg1]; try kernel_rfl)
  ·
   have hg1' := of_decide_eq_false hg1
   refine AOps.he [.run 5] 107 [(1, .ptr 0 0), (6, vb (decide (m.kind > 7)))] [(mCheckM_c1 m)] 1 ?_
   exact leZ (by rw [hg1]; try kernel_rfl)
 ·
  refine AWp.cnd ((decide (m.kind < 1) || decide (m.kind > 7))) (fun h2 => ?_) (fun h2 => ?_)
  ·
   refine AWp.hz [.run 1] 107 [(2, vi 7)] [] 1 ?_
   refine AWp.ret ?_
   exact leafR (r := vi 7) (by unfold mCheckM; (try rw [h2]); try kernel_rfl)
  ·
   have h2l := or_fl h2
   have h2l' := of_decide_eq_false h2l
   have h2r := or_fr h2
   have h2r' := of_decide_eq_false h2r
   refine AWp.join (Z 107 [(1, .ptr 0 0), (15, vb ((decide (m.dev < 1) || (decide (m.dev > 250) || !(countedM m.epoch))) || !(countedM m.version)))] [(0, .box 24 (avs (MsgV.cells m)))] 1) ?_ ?_
   ·
    refine AWp.region ?_
    refine AOps.hg [.run 4] (decide (m.dev < 1)) 107 (fun b_ => [(1, .ptr 0 0), (19, vb b_)]) [(mCheckM_c1 m)] 1 (fun hg3 => ?_) (fun hg3 => ?_)
    ·
     have hg3' := of_decide_eq_true hg3
     refine AOps.he [.run 17] 107 [(1, .ptr 0 0), (15, vb true)] [(mCheckM_c1 m)] 1 ?_
     exact leZ (by rw [hg3]; try kernel_rfl)
    ·
     have hg3' := of_decide_eq_false hg3
     refine AOps.hg [.run 5] (decide (m.dev > 250)) 107 (fun b_ => [(1, .ptr 0 0), (24, vb b_)]) [(mCheckM_c1 m)] 1 (fun hg4 => ?_) (fun hg4 => ?_)
     ·
      have hg4' := of_decide_eq_true hg4
      refine AOps.he [.run 12] 107 [(1, .ptr 0 0), (15, vb true)] [(mCheckM_c1 m)] 1 ?_
      exact leZ (by rw [hg3, hg4]; try kernel_rfl)
     ·
      have hg4' := of_decide_eq_false hg4
      refine AOps.hg [.run 2, .call 21 [vi m.epoch] (vb (countedM m.epoch)) [] 0 (countedM_ok m.epoch), .run 3] (!(countedM m.epoch)) 107 (fun b_ => [(1, .ptr 0 0), (30, vb b_)]) [(mCheckM_c1 m)] 1 (fun hg5 => ?_) (fun hg5 => ?_)
      ·
       refine AOps.he [.run 6] 107 [(1, .ptr 0 0), (15, vb true)] [(mCheckM_c1 m)] 1 ?_
       exact leZ (by rw [hg3, hg4, hg5]; try kernel_rfl)
      ·
       refine AOps.he [.run 2, .call 21 [vi m.version] (vb (countedM m.version)) [] 0 (countedM_ok m.version), .run 3] 107 [(1, .ptr 0 0), (15, vb (!(countedM m.version)))] [(mCheckM_c1 m)] 1 ?_
       exact leZ (by rw [hg3, hg4, hg5]; try kernel_rfl)
   ·
    refine AWp.cnd (((decide (m.dev < 1) || (decide (m.dev > 250) || !(countedM m.epoch))) || !(countedM m.version))) (fun h6 => ?_) (fun h6 => ?_)
    ·
     refine AWp.hz [.run 1] 107 [(2, vi 2)] [] 1 ?_
     refine AWp.ret ?_
     exact leafR (r := vi 2) (by unfold mCheckM; (try rw [h2]); (try rw [h6]); try kernel_rfl)
    ·
     have h6l := or_fl h6
     have h6ll := or_fl h6l
     have h6ll' := of_decide_eq_false h6ll
     have h6lr := or_fr h6l
     have h6lrl := or_fl h6lr
     have h6lrl' := of_decide_eq_false h6lrl
     have h6lrr := or_fr h6lr
     have h6r := or_fr h6
     refine AWp.join (Z 107 [(1, .ptr 0 0), (36, vb ((decide ((m.items.length : Int) > 7) || decide ((m.data.size : Int) > 512)) || ((m.kind == 7) && decide ((m.data.size : Int) > 64))))] [(0, .box 24 (avs (MsgV.cells m)))] 1) ?_ ?_
     ·
      refine AWp.region ?_
      refine AOps.hzl [.run 2, .len ItemV.cells m.items 7, .run 2] 107 [(1, .ptr 0 0), (41, vb (decide ((m.items.length : Int) > 7)))] [(mCheckM_c1 m)] 1 (fun hl => ?_)
      obtain ⟨hn7, -⟩ := hl
      refine AOps.hg [] (decide ((m.items.length : Int) > 7)) 107 (fun b_ => [(1, .ptr 0 0), (41, vb b_)]) [(mCheckM_c1 m)] 1 (fun hg8 => ?_) (fun hg8 => ?_)
      ·
       have hg8' := of_decide_eq_true hg8
       refine AOps.he [.run 17] 107 [(1, .ptr 0 0), (36, vb true)] [(mCheckM_c1 m)] 1 ?_
       exact leZ (by rw [hg8]; try kernel_rfl)
      ·
       have hg8' := of_decide_eq_false hg8
       refine AOps.hg [.run 6] (decide ((m.data.size : Int) > 512)) 107 (fun b_ => [(1, .ptr 0 0), (47, vb b_)]) [(mCheckM_c1 m)] 1 (fun hg9 => ?_) (fun hg9 => ?_)
       ·
        have hg9' := of_decide_eq_true hg9
        refine AOps.he [.run 11] 107 [(1, .ptr 0 0), (36, vb true)] [(mCheckM_c1 m)] 1 ?_
        exact leZ (by rw [hg8, hg9]; try kernel_rfl)
       ·
        have hg9' := of_decide_eq_false hg9
        refine AOps.hg [.run 4] ((m.kind == 7)) 107 (fun b_ => [(1, .ptr 0 0), (47, vb false), (51, vb b_)]) [(mCheckM_c1 m)] 1 (fun hg10 => ?_) (fun hg10 => ?_)
        ·
         refine AOps.he [.run 7] 107 [(1, .ptr 0 0), (36, vb (decide ((m.data.size : Int) > 64)))] [(mCheckM_c1 m)] 1 ?_
         exact leZ (by rw [hg8, hg9, hg10]; try kernel_rfl)
        ·
         refine AOps.he [.run 7] 107 [(1, .ptr 0 0), (36, vb false)] [(mCheckM_c1 m)] 1 ?_
         exact leZ (by rw [hg8, hg9, hg10]; try kernel_rfl)
     ·
      refine AWp.cnd (((decide ((m.items.length : Int) > 7) || decide ((m.data.size : Int) > 512)) || ((m.kind == 7) && decide ((m.data.size : Int) > 64)))) (fun h11 => ?_) (fun h11 => ?_)
      ·
       refine AWp.hz [.run 1] 107 [(2, vi 3)] [] 1 ?_
       refine AWp.ret ?_
       exact leafR (r := vi 3) (by unfold mCheckM; (try rw [h2]); (try rw [h6]); (try rw [h11]); try kernel_rfl)
      ·
       have h11l := or_fl h11
       have h11ll := or_fl h11l
       have h11ll' := of_decide_eq_false h11ll
       have h11lr := or_fr h11l
       have h11lr' := of_decide_eq_false h11lr
       have h11r := or_fr h11
       refine AWp.hz [.run 1, .call 22 [.agg (avs (MsgV.cells m))] (vb (spareM m)) [] 0 (spareM_ok m (by first | assumption | omega)), .run 1] 107 [(1, .ptr 0 0), (58, vb (spareM m))] [(mCheckM_c1 m)] 1 ?_
       refine AWp.cnd (spareM m) (fun h12 => ?_) (fun h12 => ?_)
       ·
        refine AWp.hz [.run 1] 107 [(2, vi 4)] [] 1 ?_
        refine AWp.ret ?_
        exact leafR (r := vi 4) (by unfold mCheckM; (try rw [h2]); (try rw [h6]); (try rw [h11]); (try rw [h12]); try kernel_rfl)
       ·
        refine AWp.skip ?_
        refine AWp.seq ?_
        refine AWp.hzl [.run 2, .len ItemV.cells m.items 7, .run 1] 107 [(1, .ptr 0 0), (mCheckM_c2 m), (mCheckM_c3 m), (64, vi 0)] [(mCheckM_c1 m)] 1 (fun hl => ?_)
        obtain ⟨hn13, -⟩ := hl
        refine AWp.block ?_
        refine AWp.loop (ι := Nat) (fun k1_ => Z 107 [(1, .ptr 0 0), (mCheckM_c2 m), (mCheckM_c3 m), (64, vi (k1_ : Int))] [(mCheckM_c1 m)] 1) (fun k1_ => k1_ ≤ m.items.length ∧ mCheckM_L1 m = scanN (mCheckM_B1 m) k1_ (m.items.length - k1_)) (fun k1_ => m.items.length - k1_) 0 leZ ⟨Nat.zero_le _, rfl⟩ ?_
        intro k1_ ⟨hk1_, hs1_⟩
        refine AWp.hz [.run 1] 107 [(1, .ptr 0 0), (mCheckM_c2 m), (mCheckM_c3 m), (64, vi (k1_ : Int)), (65, vb (decide ((k1_ : Int) < (m.items.length : Int))))] [(mCheckM_c1 m)] 1 ?_
        refine AWp.seq ?_
        refine AWp.cnd (decide ((k1_ : Int) < (m.items.length : Int))) (fun h14 => ?_) (fun h14 => ?_)
        ·
         have h14' := of_decide_eq_true h14
         refine AWp.skip ?_
         refine AWp.seq ?_
         refine AWp.block ?_
         obtain ⟨e1_, he1_⟩ := getEx (l := m.items) (j := k1_) (by omega)
         refine AWp.hz [.run 1, .idx ItemV.cells m.items 7 k1_ e1_ he1_, .run 4] 107 [(1, .ptr 0 0), (3, vi (k1_ : Int)), (4, .ptr 1 0), (mCheckM_c2 m), (mCheckM_c3 m), (64, vi (k1_ : Int))] [(1, .box 55 (avs (ItemV.cells e1_))), (mCheckM_c1 m)] 2 ?_
         refine AWp.seq ?_
         refine AWp.hz [.run 3, .call 23 [.agg (avs (ItemV.cells e1_)), vi m.dev] (vi (itemM e1_ m.dev)) [] 0 (itemM_ok e1_ m.dev), .run 1] 107 [(1, .ptr 0 0), (3, vi (k1_ : Int)), (4, .ptr 1 0), (5, vi (itemM e1_ m.dev)), (mCheckM_c2 m), (mCheckM_c3 m), (64, vi (k1_ : Int))] [(1, .box 55 (avs (ItemV.cells e1_))), (mCheckM_c1 m)] 2 ?_
         refine AWp.hz [.run 2] 107 [(1, .ptr 0 0), (3, vi (k1_ : Int)), (4, .ptr 1 0), (5, vi (itemM e1_ m.dev)), (mCheckM_c2 m), (mCheckM_c3 m), (64, vi (k1_ : Int)), (74, vb (itemM e1_ m.dev != 0))] [(1, .box 55 (avs (ItemV.cells e1_))), (mCheckM_c1 m)] 2 ?_
         refine AWp.cnd ((itemM e1_ m.dev != 0)) (fun h15 => ?_) (fun h15 => ?_)
         ·
          refine AWp.hz [.run 2] 107 [(2, vi (itemM e1_ m.dev))] [] 2 ?_
          refine AWp.ret ?_
          have hL1_ : mCheckM_L1 m = some (itemM e1_ m.dev) := scanN_some hs1_ (by omega) (by unfold mCheckM_B1; (try simp only [he1_]); (try rw [h14]); (try rw [h15]); try kernel_rfl)
          exact leafR (r := vi (itemM e1_ m.dev)) (by unfold mCheckM; (try rw [h2]); (try rw [h6]); (try rw [h11]); (try rw [h12]); (try rw [hL1_]); try kernel_rfl)
         ·
          refine AWp.skip ?_
          refine AWp.split (decide ((k1_ : Int) > 0)) (fun h16 => ?_) (fun h16 => ?_)
          ·
           have h16' := of_decide_eq_true h16
           have := wrap64_of ((k1_ : Int) - 1) (by omega) (by omega)
           have ht17 : (IntKind.i64.wrap ((k1_ : Int) - 1)) = (((IntKind.i64.wrap ((k1_ : Int) - 1)).toNat : Nat) : Int) := (Int.toNat_of_nonneg (by omega)).symm
           obtain ⟨e2_, he2_⟩ := getEx (l := m.items) (j := (IntKind.i64.wrap ((k1_ : Int) - 1)).toNat) (by omega)
           refine AWp.dz [vi (k1_ : Int), vb true, vb true, .ptr 0 4, .rv (.sl 7 (m.items.map ItemV.cells)), vi (k1_ : Int), vi (((IntKind.i64.wrap ((k1_ : Int) - 1)).toNat : Nat) : Int), .rv (.ptr (ItemV.cells e2_)), .rv (.ptr (ItemV.cells e2_)), .agg [vi e2_.key.dev, vs e2_.key.cluster, vs e2_.key.attr], .ptr 1 0, .agg [vi e1_.key.dev, vs e1_.key.cluster, vs e1_.key.attr], vb (lessM e2_.key e1_.key), vb (!(lessM e2_.key e1_.key)), vb (!(lessM e2_.key e1_.key))] 107 [(1, .ptr 0 0), (mCheckM_c2 m), (mCheckM_c3 m), (64, vi (k1_ : Int)), (90, vb (!(lessM e2_.key e1_.key)))] [(mCheckM_c1 m)] 2 ?_ ?_
           ·
            refine DSteps.cons (DStep.va) ?_
            refine DSteps.cons ((DStep.val (v := vb (decide ((k1_ : Int) > 0))) (by kernel_rfl) (by kernel_rfl)).cast (congrArg vb h16)) ?_
            refine DSteps.cons (DStep.va) ?_
            refine DSteps.cons (DStep.va) ?_
            refine DSteps.cons (DStep.va) ?_
            refine DSteps.cons (DStep.va) ?_
            refine DSteps.cons ((DStep.val (v := vi (IntKind.i64.wrap ((k1_ : Int) - 1))) (by kernel_rfl) (by kernel_rfl)).cast (congrArg vi ht17)) ?_
            refine DSteps.cons (DStep.vs (by kernel_rfl) (R_indexAddrM ItemV.cells m.items 7 ((IntKind.i64.wrap ((k1_ : Int) - 1)).toNat) rfl (by kernel_rfl) (by kernel_rfl) (by kernel_rfl) he2_)) ?_
            refine DSteps.cons (DStep.va) ?_
            refine DSteps.cons (DStep.va) ?_
            refine DSteps.cons (DStep.va) ?_
            refine DSteps.cons (DStep.va) ?_
            refine DSteps.cons (DStep.call rfl (by kernel_rfl) (by kernel_rfl) (by kernel_rfl) (args := [.agg [vi e2_.key.dev, vs e2_.key.cluster, vs e2_.key.attr], .agg [vi e1_.key.dev, vs e1_.key.cluster, vs e1_.key.attr]]) (by kernel_rfl) (by kernel_rfl) (lessM_ok e2_.key e1_.key) (by kernel_rfl) (Nat.le_of_ble_eq_true (by kernel_rfl))) ?_
            refine DSteps.cons (DStep.va) ?_
            refine DSteps.cons (DStep.va) ?_
            exact DSteps.nl
           refine AWp.cnd (!(lessM e2_.key e1_.key)) (fun h18 => ?_) (fun h18 => ?_)
           ·
            refine AWp.hz [.run 1] 107 [(2, vi 14)] [] 2 ?_
            refine AWp.ret ?_
            have hL1_ : mCheckM_L1 m = some 14 := scanN_some hs1_ (by omega) (by unfold mCheckM_B1; (try simp only [he1_]); (try simp only [he2_]); (try rw [h14]); (try rw [h15]); (try rw [h16]); (try rw [h18]); try kernel_rfl)
            exact leafR (r := vi 14) (by unfold mCheckM; (try rw [h2]); (try rw [h6]); (try rw [h11]); (try rw [h12]); (try rw [hL1_]); try kernel_rfl)
           ·
            refine AWp.skip ?_
            refine AWp.he [.cast (vi (IntKind.i64.wrap ((k1_ : Int) + 1))) (vi ((k1_ + 1 : Nat) : Int)) (congrArg vi (wrap_nat (by omega))), .run 1] 107 [(1, .ptr 0 0), (mCheckM_c2 m), (mCheckM_c3 m), (64, vi ((k1_ + 1 : Nat) : Int))] [(mCheckM_c1 m)] 2 ?_
            exact ⟨k1_ + 1, ⟨by omega, scanN_none hs1_ (by omega) (by unfold mCheckM_B1; (try simp only [he1_]); (try simp only [he2_]); (try rw [h14]); (try rw [h15]); (try rw [h16]); (try rw [h18]); try kernel_rfl)⟩, by omega, leG⟩
          ·
           have h16' := of_decide_eq_false h16
           refine AWp.dz [vi (k1_ : Int), vb false, vb false, .tuple [], .tuple [], .tuple [], .tuple [], .tuple [], .tuple [], .tuple [], .tuple [], .tuple [], .tuple [], .tuple [], vb false] 107 [(1, .ptr 0 0), (mCheckM_c2 m), (mCheckM_c3 m), (64, vi (k1_ : Int)), (90, vb false)] [(mCheckM_c1 m)] 2 ?_ ?_
           ·
            refine DSteps.cons (DStep.va) ?_
            refine DSteps.cons ((DStep.val (v := vb (decide ((k1_ : Int) > 0))) (by kernel_rfl) (by kernel_rfl)).cast (congrArg vb h16)) ?_
            refine DSteps.cons (DStep.va) ?_
            refine DSteps.cons (DStep.skip (by kernel_rfl)) ?_
            refine DSteps.cons (DStep.skip (by kernel_rfl)) ?_
            refine DSteps.cons (DStep.skip (by kernel_rfl)) ?_
            refine DSteps.cons (DStep.skip (by kernel_rfl)) ?_
            refine DSteps.cons (DStep.skip (by kernel_rfl)) ?_
            refine DSteps.cons (DStep.skip (by kernel_rfl)) ?_
            refine DSteps.cons (DStep.skip (by kernel_rfl)) ?_
            refine DSteps.cons (DStep.skip (by kernel_rfl)) ?_
            refine DSteps.cons (DStep.skip (by kernel_rfl)) ?_
            refine DSteps.cons (DStep.skip (by kernel_rfl)) ?_
            refine DSteps.cons (DStep.skip (by kernel_rfl)) ?_
            refine DSteps.cons (DStep.va) ?_
            exact DSteps.nl
           refine AWp.cndF ?_
           refine AWp.skip ?_
           refine AWp.he [.cast (vi (IntKind.i64.wrap ((k1_ : Int) + 1))) (vi ((k1_ + 1 : Nat) : Int)) (congrArg vi (wrap_nat (by omega))), .run 1] 107 [(1, .ptr 0 0), (mCheckM_c2 m), (mCheckM_c3 m), (64, vi ((k1_ + 1 : Nat) : Int))] [(mCheckM_c1 m)] 2 ?_
           exact ⟨k1_ + 1, ⟨by omega, scanN_none hs1_ (by omega) (by unfold mCheckM_B1; (try simp only [he1_]); (try rw [h14]); (try rw [h15]); (try rw [h16]); try kernel_rfl)⟩, by omega, leG⟩
        ·
         have h14' := of_decide_eq_false h14
         refine AWp.exit ?_
         have hL1_ : mCheckM_L1 m = none := scanN_end hs1_ (by omega)
         refine AWp.seq ?_
         refine AWp.join (Z 107 [(106, vb (hasNamesM m.kind && (!(validM m.cluster) || !(validM m.name))))] [] 1) ?_ ?_
         ·
          refine AWp.region ?_
          refine AOps.hg [.run 2, .call 25 [vi m.kind] (vb (hasNamesM m.kind)) [] 0 (hasNamesM_ok m.kind), .run 1] (hasNamesM m.kind) 107 (fun b_ => [(1, .ptr 0 0), (95, vb b_)]) [(mCheckM_c1 m)] 1 (fun hg19 => ?_) (fun hg19 => ?_)
          ·
           refine AOps.hg [.run 2, .call 26 [vs m.cluster] (vb (validM m.cluster)) [] 0 (validM_ok m.cluster), .run 2] (!(validM m.cluster)) 107 (fun b_ => [(1, .ptr 0 0), (95, vb true), (100, vb b_)]) [(mCheckM_c1 m)] 1 (fun hg20 => ?_) (fun hg20 => ?_)
           ·
            refine AOps.he [.run 6] 107 [(106, vb true)] [] 1 ?_
            exact leZ (by rw [hg19, hg20]; try kernel_rfl)
           ·
            refine AOps.he [.run 2, .call 26 [vs m.name] (vb (validM m.name)) [] 0 (validM_ok m.name), .run 3] 107 [(106, vb (!(validM m.name)))] [] 1 ?_
            exact leZ (by rw [hg19, hg20]; try kernel_rfl)
          ·
           refine AOps.he [.run 11] 107 [(106, vb false)] [] 1 ?_
           exact leZ (by rw [hg19]; try kernel_rfl)
         ·
          refine AWp.cnd ((hasNamesM m.kind && (!(validM m.cluster) || !(validM m.name)))) (fun h21 => ?_) (fun h21 => ?_)
          ·
           refine AWp.hz [.run 1] 107 [(2, vi 10)] [] 1 ?_
           refine AWp.ret ?_
           exact leafR (r := vi 10) (by unfold mCheckM; (try rw [h2]); (try rw [h6]); (try rw [h11]); (try rw [h12]); (try rw [hL1_]); (try rw [h21]); try kernel_rfl)
          ·
           refine AWp.skip ?_
           refine AWp.hz [.run 1] 107 [(2, vi 0)] [] 1 ?_
           refine AWp.ret ?_
           exact leafR (r := vi 0) (by unfold mCheckM; (try rw [h2]); (try rw [h6]); (try rw [h11]); (try rw [h12]); (try rw [hL1_]); (try rw [h21]); try kernel_rfl)
def rspareM (m : MsgV) : Bool :=
 (bif (bif !(rhasEpochM m.kind) then (((m.epoch != 0) || (!(rhasItemsM m.kind) && decide ((m.items.length : Int) > 0))) || (!(rhasDataM m.kind) && !beqS m.data (⟨#[]⟩))) else ((!(rhasItemsM m.kind) && decide ((m.items.length : Int) > 0)) || (!(rhasDataM m.kind) && !beqS m.data (⟨#[]⟩)))) then false else ((m.kind == 5) || (beqS m.cluster (⟨#[]⟩) && beqS m.name (⟨#[]⟩))))
abbrev rspareM_c1 (m : MsgV) : Nat × AObj := (0, .box 24 (avs (MsgV.cells m)))
theorem rspareM_ok (m : MsgV) :
 ACalls Try.prog G_ 28 [.agg (avs (MsgV.cells m))] [] 0 (fun r τ => r = vb (rspareM m) ∧ τ = []) := by
 refine ACalls.body Try.func28 rfl 48 [(0, .agg (avs (MsgV.cells m)))] ?_
 refine AWp.hz [.run 2] 48 [(1, .ptr 0 0)] [(rspareM_c1 m)] 1 ?_
 refine AWp.seq ?_
 refine AWp.join (Z 48 [(1, .ptr 0 0), (34, vb (bif !(rhasEpochM m.kind) then (((m.epoch != 0) || (!(rhasItemsM m.kind) && decide ((m.items.length : Int) > 0))) || (!(rhasDataM m.kind) && !beqS m.data (⟨#[]⟩))) else ((!(rhasItemsM m.kind) && decide ((m.items.length : Int) > 0)) || (!(rhasDataM m.kind) && !beqS m.data (⟨#[]⟩)))))] [(0, .box 24 (avs (MsgV.cells m)))] 1) ?_ ?_
 ·
  refine AWp.region ?_
  refine AOps.hg [.run 2, .call 40 [vi m.kind] (vb (rhasEpochM m.kind)) [] 0 (rhasEpochM_ok m.kind), .run 2] (!(rhasEpochM m.kind)) 48 (fun b_ => [(1, .ptr 0 0), (7, vb b_)]) [(rspareM_c1 m)] 1 (fun hg1 => ?_) (fun hg1 => ?_)
  ·
   refine AOps.hg [.run 5] ((m.epoch != 0)) 48 (fun b_ => [(1, .ptr 0 0), (12, vb b_)]) [(rspareM_c1 m)] 1 (fun hg2 => ?_) (fun hg2 => ?_)
   ·
    refine AOps.he [.run 22] 48 [(1, .ptr 0 0), (34, vb true)] [(rspareM_c1 m)] 1 ?_
    exact leZ (by rw [hg1, hg2]; try kernel_rfl)
   ·
    refine AOps.hg [.run 2, .call 41 [vi m.kind] (vb (rhasItemsM m.kind)) [] 0 (rhasItemsM_ok m.kind), .run 2] (!(rhasItemsM m.kind)) 48 (fun b_ => [(1, .ptr 0 0), (12, vb false), (17, vb b_)]) [(rspareM_c1 m)] 1 (fun hg3 => ?_) (fun hg3 => ?_)
    ·
     refine AOps.hzl [.run 2, .len ItemV.cells m.items 7, .run 4] 48 [(1, .ptr 0 0), (24, vb (decide ((m.items.length : Int) > 0)))] [(rspareM_c1 m)] 1 (fun hl => ?_)
     obtain ⟨hn4, -⟩ := hl
     refine AOps.hg [] (decide ((m.items.length : Int) > 0)) 48 (fun b_ => [(1, .ptr 0 0), (24, vb b_)]) [(rspareM_c1 m)] 1 (fun hg5 => ?_) (fun hg5 => ?_)
     ·
      have hg5' := of_decide_eq_true hg5
      refine AOps.he [.run 10] 48 [(1, .ptr 0 0), (34, vb true)] [(rspareM_c1 m)] 1 ?_
      exact leZ (by rw [hg1, hg2, hg3, hg5]; try kernel_rfl)
     ·
      have hg5' := of_decide_eq_false hg5
      refine AOps.hg [.run 2, .call 44 [vi m.kind] (vb (rhasDataM m.kind)) [] 0 (rhasDataM_ok m.kind), .run 2] (!(rhasDataM m.kind)) 48 (fun b_ => [(1, .ptr 0 0), (24, vb false), (29, vb b_)]) [(rspareM_c1 m)] 1 (fun hg6 => ?_) (fun hg6 => ?_)
      ·
       refine AOps.he [.run 5] 48 [(1, .ptr 0 0), (34, vb (!beqS m.data (⟨#[]⟩)))] [(rspareM_c1 m)] 1 ?_
       exact leZ (by rw [hg1, hg2, hg3, hg5, hg6]; try kernel_rfl)
      ·
       refine AOps.he [.run 5] 48 [(1, .ptr 0 0), (34, vb false)] [(rspareM_c1 m)] 1 ?_
       exact leZ (by rw [hg1, hg2, hg3, hg5, hg6]; try kernel_rfl)
    ·
     refine AOps.hg [.run 9, .call 44 [vi m.kind] (vb (rhasDataM m.kind)) [] 0 (rhasDataM_ok m.kind), .run 2] (!(rhasDataM m.kind)) 48 (fun b_ => [(1, .ptr 0 0), (24, vb false), (29, vb b_)]) [(rspareM_c1 m)] 1 (fun hg7 => ?_) (fun hg7 => ?_)
     ·
      refine AOps.he [.run 5] 48 [(1, .ptr 0 0), (34, vb (!beqS m.data (⟨#[]⟩)))] [(rspareM_c1 m)] 1 ?_
      exact leZ (by rw [hg1, hg2, hg3, hg7]; try kernel_rfl)
     ·
      refine AOps.he [.run 5] 48 [(1, .ptr 0 0), (34, vb false)] [(rspareM_c1 m)] 1 ?_
      exact leZ (by rw [hg1, hg2, hg3, hg7]; try kernel_rfl)
  ·
   refine AOps.hg [.run 7, .call 41 [vi m.kind] (vb (rhasItemsM m.kind)) [] 0 (rhasItemsM_ok m.kind), .run 2] (!(rhasItemsM m.kind)) 48 (fun b_ => [(1, .ptr 0 0), (12, vb false), (17, vb b_)]) [(rspareM_c1 m)] 1 (fun hg8 => ?_) (fun hg8 => ?_)
   ·
    refine AOps.hzl [.run 2, .len ItemV.cells m.items 7, .run 4] 48 [(1, .ptr 0 0), (24, vb (decide ((m.items.length : Int) > 0)))] [(rspareM_c1 m)] 1 (fun hl => ?_)
    obtain ⟨hn9, -⟩ := hl
    refine AOps.hg [] (decide ((m.items.length : Int) > 0)) 48 (fun b_ => [(1, .ptr 0 0), (24, vb b_)]) [(rspareM_c1 m)] 1 (fun hg10 => ?_) (fun hg10 => ?_)
    ·
     have hg10' := of_decide_eq_true hg10
     refine AOps.he [.run 10] 48 [(1, .ptr 0 0), (34, vb true)] [(rspareM_c1 m)] 1 ?_
     exact leZ (by rw [hg1, hg8, hg10]; try kernel_rfl)
    ·
     have hg10' := of_decide_eq_false hg10
     refine AOps.hg [.run 2, .call 44 [vi m.kind] (vb (rhasDataM m.kind)) [] 0 (rhasDataM_ok m.kind), .run 2] (!(rhasDataM m.kind)) 48 (fun b_ => [(1, .ptr 0 0), (24, vb false), (29, vb b_)]) [(rspareM_c1 m)] 1 (fun hg11 => ?_) (fun hg11 => ?_)
     ·
      refine AOps.he [.run 5] 48 [(1, .ptr 0 0), (34, vb (!beqS m.data (⟨#[]⟩)))] [(rspareM_c1 m)] 1 ?_
      exact leZ (by rw [hg1, hg8, hg10, hg11]; try kernel_rfl)
     ·
      refine AOps.he [.run 5] 48 [(1, .ptr 0 0), (34, vb false)] [(rspareM_c1 m)] 1 ?_
      exact leZ (by rw [hg1, hg8, hg10, hg11]; try kernel_rfl)
   ·
    refine AOps.hg [.run 9, .call 44 [vi m.kind] (vb (rhasDataM m.kind)) [] 0 (rhasDataM_ok m.kind), .run 2] (!(rhasDataM m.kind)) 48 (fun b_ => [(1, .ptr 0 0), (24, vb false), (29, vb b_)]) [(rspareM_c1 m)] 1 (fun hg12 => ?_) (fun hg12 => ?_)
    ·
     refine AOps.he [.run 5] 48 [(1, .ptr 0 0), (34, vb (!beqS m.data (⟨#[]⟩)))] [(rspareM_c1 m)] 1 ?_
     exact leZ (by rw [hg1, hg8, hg12]; try kernel_rfl)
    ·
     refine AOps.he [.run 5] 48 [(1, .ptr 0 0), (34, vb false)] [(rspareM_c1 m)] 1 ?_
     exact leZ (by rw [hg1, hg8, hg12]; try kernel_rfl)
 ·
  refine AWp.cnd ((bif !(rhasEpochM m.kind) then (((m.epoch != 0) || (!(rhasItemsM m.kind) && decide ((m.items.length : Int) > 0))) || (!(rhasDataM m.kind) && !beqS m.data (⟨#[]⟩))) else ((!(rhasItemsM m.kind) && decide ((m.items.length : Int) > 0)) || (!(rhasDataM m.kind) && !beqS m.data (⟨#[]⟩))))) (fun h13 => ?_) (fun h13 => ?_)
  ·
   refine AWp.hz [.run 1] 48 [(2, vb false)] [] 1 ?_
   refine AWp.ret ?_
   exact leafR (r := vb false) (by unfold rspareM; (try rw [h13]); try kernel_rfl)
  ·
   refine AWp.skip ?_
   refine AWp.join (Z 48 [(2, vb ((m.kind == 5) || (beqS m.cluster (⟨#[]⟩) && beqS m.name (⟨#[]⟩))))] [] 1) ?_ ?_
   ·
    refine AWp.region ?_
    refine AOps.hg [.run 4] ((m.kind == 5)) 48 (fun b_ => [(1, .ptr 0 0), (38, vb b_)]) [(rspareM_c1 m)] 1 (fun hg14 => ?_) (fun hg14 => ?_)
    ·
     refine AOps.he [.run 10] 48 [(2, vb true)] [] 1 ?_
     exact leZ (by rw [hg14]; try kernel_rfl)
    ·
     refine AOps.hg [.run 4] (beqS m.cluster (⟨#[]⟩)) 48 (fun b_ => [(1, .ptr 0 0), (38, vb false), (42, vb b_)]) [(rspareM_c1 m)] 1 (fun hg15 => ?_) (fun hg15 => ?_)
     ·
      refine AOps.he [.run 6] 48 [(2, vb (beqS m.name (⟨#[]⟩)))] [] 1 ?_
      exact leZ (by rw [hg14, hg15]; try kernel_rfl)
     ·
      refine AOps.he [.run 6] 48 [(2, vb false)] [] 1 ?_
      exact leZ (by rw [hg14, hg15]; try kernel_rfl)
   ·
    refine AWp.ret ?_
    exact leafR (r := vb ((m.kind == 5) || (beqS m.cluster (⟨#[]⟩) && beqS m.name (⟨#[]⟩)))) (by unfold rspareM; (try rw [h13]); try kernel_rfl)
def rflagsM_B1 (s : ByteArray) (k1_ : Nat) : Option Bool :=
 (match (s.data.toList)[k1_]? with | some e1_ => (bif decide ((e1_.toNat : Int) > 1) then some false else none) | none => none)
def rflagsM_L1 (s : ByteArray) : Option Bool := scanN (rflagsM_B1 s) 0 s.size
def rflagsM (s : ByteArray) : Bool :=
 (rflagsM_L1 s).getD true
theorem rflagsM_ok (s : ByteArray) (hs : s.size ≤ 1000000) :
 ACalls Try.prog G_ 29 [vs s] [] 0 (fun r τ => r = vb (rflagsM s) ∧ τ = []) := by
 refine ACalls.body Try.func29 rfl 14 [(0, vs s)] ?_
 refine AWp.hz [.run 1] 14 [(0, vs s)] [] 0 ?_
 refine AWp.seq ?_
 refine AWp.hz [.run 1] 14 [(0, vs s), (3, vi 0)] [] 0 ?_
 refine AWp.block ?_
 refine AWp.loop (ι := Nat) (fun k1_ => Z 14 [(0, vs s), (3, vi (k1_ : Int))] [] 0) (fun k1_ => k1_ ≤ s.size ∧ rflagsM_L1 s = scanN (rflagsM_B1 s) k1_ (s.size - k1_)) (fun k1_ => s.size - k1_) 0 leZ ⟨Nat.zero_le _, rfl⟩ ?_
 intro k1_ ⟨hk1_, hs1_⟩
 refine AWp.seq ?_
 refine AWp.hz [.run 4] 14 [(0, vs s), (3, vi (k1_ : Int)), (7, vb (decide ((k1_ : Int) < (s.size : Int))))] [] 0 ?_
 refine AWp.cnd (decide ((k1_ : Int) < (s.size : Int))) (fun h1 => ?_) (fun h1 => ?_)
 ·
  have h1' := of_decide_eq_true h1
  refine AWp.skip ?_
  refine AWp.seq ?_
  refine AWp.block ?_
  obtain ⟨e1_, he1_⟩ : ∃ e_, (s.data.toList)[k1_]? = some e_ := byteAt (by omega)
  refine AWp.hz [.run 2, .idxS s k1_ e1_ he1_, .run 1] 14 [(0, vs s), (3, vi (k1_ : Int)), (13, vb (decide ((e1_.toNat : Int) > 1)))] [] 0 ?_
  refine AWp.cnd (decide ((e1_.toNat : Int) > 1)) (fun h2 => ?_) (fun h2 => ?_)
  ·
   have h2' := of_decide_eq_true h2
   refine AWp.hz [.run 1] 14 [(2, vb false)] [] 0 ?_
   refine AWp.ret ?_
   have hL1_ : rflagsM_L1 s = some false := scanN_some hs1_ (by omega) (by unfold rflagsM_B1; (try simp only [he1_]); (try rw [h1]); (try rw [h2]); try kernel_rfl)
   exact leafR (r := vb false) (by unfold rflagsM; (try rw [hL1_]); try kernel_rfl)
  ·
   have h2' := of_decide_eq_false h2
   refine AWp.skip ?_
   refine AWp.he [.run 1, .cast (vi (IntKind.i64.wrap ((k1_ : Int) + 1))) (vi ((k1_ + 1 : Nat) : Int)) (congrArg vi (wrap_nat (by omega))), .run 1] 14 [(0, vs s), (3, vi ((k1_ + 1 : Nat) : Int))] [] 0 ?_
   exact ⟨k1_ + 1, ⟨by omega, scanN_none hs1_ (by omega) (by unfold rflagsM_B1; (try simp only [he1_]); (try rw [h1]); (try rw [h2]); try kernel_rfl)⟩, by omega, leG⟩
 ·
  have h1' := of_decide_eq_false h1
  refine AWp.exit ?_
  have hL1_ : rflagsM_L1 s = none := scanN_end hs1_ (by omega)
  refine AWp.hz [.run 1] 14 [(2, vb true)] [] 0 ?_
  refine AWp.ret ?_
  exact leafR (r := vb true) (by unfold rflagsM; (try rw [hL1_]); try kernel_rfl)
def ritemM (m : MsgV) (i : Nat) : Int :=
 (match (m.items)[i]? with | some e1_ => (bif (e1_.key.dev != m.dev) then 1 else (bif (!(rvalidM e1_.key.cluster) || !(rvalidM e1_.key.attr)) then 10 else (bif (rvCheckM e1_.value != 0) then rvCheckM e1_.value else (bif !(rtickM e1_.version) then 2 else (bif decide ((i : Int) > 0) then (match (m.items)[(IntKind.i64.wrap ((i : Int) - 1)).toNat]? with | some e2_ => (bif !(rlessM e2_.key e1_.key) then 14 else 0) | none => 0) else 0))))) | none => 0)
abbrev ritemM_c1 (m : MsgV) : Nat × AObj := (0, .box 24 (avs (MsgV.cells m)))
abbrev ritemM_c2 (e1_ : ItemV) : Nat × AObj := (1, .box 55 (avs (ItemV.cells e1_)))
theorem ritemM_ok (m : MsgV) (i : Nat) (hi : i < m.items.length) (hn : m.items.length ≤ 9223372036854775807) :
 ACalls Try.prog G_ 30 [.agg (avs (MsgV.cells m)), vi (i : Int)] [] 0 (fun r τ => r = vi (ritemM m i) ∧ τ = []) := by
 refine ACalls.body Try.func30 rfl 55 [(0, .agg (avs (MsgV.cells m))), (1, vi (i : Int))] ?_
 refine AWp.hz [.run 2] 55 [(1, vi (i : Int)), (2, .ptr 0 0)] [(ritemM_c1 m)] 1 ?_
 obtain ⟨e1_, he1_⟩ := getEx (l := m.items) (j := i) (by omega)
 refine AWp.hz [.run 3, .idx ItemV.cells m.items 7 i e1_ he1_, .run 3] 55 [(1, vi (i : Int)), (2, .ptr 0 0), (5, .ptr 1 0)] [(ritemM_c2 e1_), (ritemM_c1 m)] 2 ?_
 refine AWp.seq ?_
 refine AWp.hz [.run 6] 55 [(1, vi (i : Int)), (2, .ptr 0 0), (5, .ptr 1 0), (17, vb (e1_.key.dev != m.dev))] [(ritemM_c2 e1_), (ritemM_c1 m)] 2 ?_
 refine AWp.cnd ((e1_.key.dev != m.dev)) (fun h1 => ?_) (fun h1 => ?_)
 ·
  refine AWp.hz [.run 1] 55 [(4, vi 1)] [] 2 ?_
  refine AWp.ret ?_
  exact leafR (r := vi 1) (by unfold ritemM; (try simp only [he1_]); (try rw [h1]); try kernel_rfl)
 ·
  refine AWp.skip ?_
  refine AWp.seq ?_
  refine AWp.join (Z 55 [(1, vi (i : Int)), (2, .ptr 0 0), (5, .ptr 1 0), (29, vb (!(rvalidM e1_.key.cluster) || !(rvalidM e1_.key.attr)))] [(1, .box 55 (avs (ItemV.cells e1_))), (0, .box 24 (avs (MsgV.cells m)))] 2) ?_ ?_
  ·
   refine AWp.region ?_
   refine AOps.hg [.run 3, .call 31 [vs e1_.key.cluster] (vb (rvalidM e1_.key.cluster)) [] 0 (rvalidM_ok e1_.key.cluster), .run 2] (!(rvalidM e1_.key.cluster)) 55 (fun b_ => [(1, vi (i : Int)), (2, .ptr 0 0), (5, .ptr 1 0), (23, vb b_)]) [(ritemM_c2 e1_), (ritemM_c1 m)] 2 (fun hg2 => ?_) (fun hg2 => ?_)
   ·
    refine AOps.he [.run 6] 55 [(1, vi (i : Int)), (2, .ptr 0 0), (5, .ptr 1 0), (29, vb true)] [(ritemM_c2 e1_), (ritemM_c1 m)] 2 ?_
    exact leZ (by rw [hg2]; try kernel_rfl)
   ·
    refine AOps.he [.run 3, .call 31 [vs e1_.key.attr] (vb (rvalidM e1_.key.attr)) [] 0 (rvalidM_ok e1_.key.attr), .run 2] 55 [(1, vi (i : Int)), (2, .ptr 0 0), (5, .ptr 1 0), (29, vb (!(rvalidM e1_.key.attr)))] [(ritemM_c2 e1_), (ritemM_c1 m)] 2 ?_
    exact leZ (by rw [hg2]; try kernel_rfl)
  ·
   refine AWp.cnd ((!(rvalidM e1_.key.cluster) || !(rvalidM e1_.key.attr))) (fun h3 => ?_) (fun h3 => ?_)
   ·
    refine AWp.hz [.run 1] 55 [(4, vi 10)] [] 2 ?_
    refine AWp.ret ?_
    exact leafR (r := vi 10) (by unfold ritemM; (try simp only [he1_]); (try rw [h1]); (try rw [h3]); try kernel_rfl)
   ·
    refine AWp.skip ?_
    refine AWp.hz [.run 2, .call 73 [.agg [vi e1_.value.kind, vi e1_.value.n, vs e1_.value.s]] (vi (rvCheckM e1_.value)) [] 0 (rvCheckM_ok e1_.value), .run 1] 55 [(1, vi (i : Int)), (2, .ptr 0 0), (5, .ptr 1 0), (6, vi (rvCheckM e1_.value))] [(ritemM_c2 e1_), (ritemM_c1 m)] 2 ?_
    refine AWp.seq ?_
    refine AWp.hz [.run 2] 55 [(1, vi (i : Int)), (2, .ptr 0 0), (5, .ptr 1 0), (6, vi (rvCheckM e1_.value)), (34, vb (rvCheckM e1_.value != 0))] [(ritemM_c2 e1_), (ritemM_c1 m)] 2 ?_
    refine AWp.cnd ((rvCheckM e1_.value != 0)) (fun h4 => ?_) (fun h4 => ?_)
    ·
     refine AWp.hz [.run 2] 55 [(4, vi (rvCheckM e1_.value))] [] 2 ?_
     refine AWp.ret ?_
     exact leafR (r := vi (rvCheckM e1_.value)) (by unfold ritemM; (try simp only [he1_]); (try rw [h1]); (try rw [h3]); (try rw [h4]); try kernel_rfl)
    ·
     refine AWp.skip ?_
     refine AWp.seq ?_
     refine AWp.hz [.run 2, .call 27 [vi e1_.version] (vb (rtickM e1_.version)) [] 0 (rtickM_ok e1_.version), .run 1] 55 [(1, vi (i : Int)), (2, .ptr 0 0), (5, .ptr 1 0), (39, vb (!(rtickM e1_.version)))] [(ritemM_c2 e1_), (ritemM_c1 m)] 2 ?_
     refine AWp.cnd (!(rtickM e1_.version)) (fun h5 => ?_) (fun h5 => ?_)
     ·
      refine AWp.hz [.run 1] 55 [(4, vi 2)] [] 2 ?_
      refine AWp.ret ?_
      exact leafR (r := vi 2) (by unfold ritemM; (try simp only [he1_]); (try rw [h1]); (try rw [h3]); (try rw [h4]); (try rw [h5]); try kernel_rfl)
     ·
      refine AWp.skip ?_
      refine AWp.seq ?_
      refine AWp.split (decide ((i : Int) > 0)) (fun h6 => ?_) (fun h6 => ?_)
      ·
       have h6' := of_decide_eq_true h6
       have := wrap64_of ((i : Int) - 1) (by omega) (by omega)
       have ht7 : (IntKind.i64.wrap ((i : Int) - 1)) = (((IntKind.i64.wrap ((i : Int) - 1)).toNat : Nat) : Int) := (Int.toNat_of_nonneg (by omega)).symm
       obtain ⟨e2_, he2_⟩ := getEx (l := m.items) (j := (IntKind.i64.wrap ((i : Int) - 1)).toNat) (by omega)
       refine AWp.dz [vi (i : Int), vb true, vb true, .ptr 0 4, .rv (.sl 7 (m.items.map ItemV.cells)), vi (i : Int), vi (((IntKind.i64.wrap ((i : Int) - 1)).toNat : Nat) : Int), .rv (.ptr (ItemV.cells e2_)), .rv (.ptr (ItemV.cells e2_)), .agg [vi e2_.key.dev, vs e2_.key.cluster, vs e2_.key.attr], .ptr 1 0, .agg [vi e1_.key.dev, vs e1_.key.cluster, vs e1_.key.attr], vb (rlessM e2_.key e1_.key), vb (!(rlessM e2_.key e1_.key)), vb (!(rlessM e2_.key e1_.key))] 55 [(54, vb (!(rlessM e2_.key e1_.key)))] [] 2 ?_ ?_
       ·
        refine DSteps.cons (DStep.va) ?_
        refine DSteps.cons ((DStep.val (v := vb (decide ((i : Int) > 0))) (by kernel_rfl) (by kernel_rfl)).cast (congrArg vb h6)) ?_
        refine DSteps.cons (DStep.va) ?_
        refine DSteps.cons (DStep.va) ?_
        refine DSteps.cons (DStep.va) ?_
        refine DSteps.cons (DStep.va) ?_
        refine DSteps.cons ((DStep.val (v := vi (IntKind.i64.wrap ((i : Int) - 1))) (by kernel_rfl) (by kernel_rfl)).cast (congrArg vi ht7)) ?_
        refine DSteps.cons (DStep.vs (by kernel_rfl) (R_indexAddrM ItemV.cells m.items 7 ((IntKind.i64.wrap ((i : Int) - 1)).toNat) rfl (by kernel_rfl) (by kernel_rfl) (by kernel_rfl) he2_)) ?_
        refine DSteps.cons (DStep.va) ?_
        refine DSteps.cons (DStep.va) ?_
        refine DSteps.cons (DStep.va) ?_
        refine DSteps.cons (DStep.va) ?_
        refine DSteps.cons (DStep.call rfl (by kernel_rfl) (by kernel_rfl) (by kernel_rfl) (args := [.agg [vi e2_.key.dev, vs e2_.key.cluster, vs e2_.key.attr], .agg [vi e1_.key.dev, vs e1_.key.cluster, vs e1_.key.attr]]) (by kernel_rfl) (by kernel_rfl) (rlessM_ok e2_.key e1_.key) (by kernel_rfl) (Nat.le_of_ble_eq_true (by kernel_rfl))) ?_
        refine DSteps.cons (DStep.va) ?_
        refine DSteps.cons (DStep.va) ?_
        exact DSteps.nl
       refine AWp.cnd (!(rlessM e2_.key e1_.key)) (fun h8 => ?_) (fun h8 => ?_)
       ·
        refine AWp.hz [.run 1] 55 [(4, vi 14)] [] 2 ?_
        refine AWp.ret ?_
        exact leafR (r := vi 14) (by unfold ritemM; (try simp only [he1_]); (try simp only [he2_]); (try rw [h1]); (try rw [h3]); (try rw [h4]); (try rw [h5]); (try rw [h6]); (try rw [h8]); try kernel_rfl)
       ·
        refine AWp.skip ?_
        refine AWp.hz [.run 1] 55 [(4, vi 0)] [] 2 ?_
        refine AWp.ret ?_
        exact leafR (r := vi 0) (by unfold ritemM; (try simp only [he1_]); (try simp only [he2_]); (try rw [h1]); (try rw [h3]); (try rw [h4]); (try rw [h5]); (try rw [h6]); (try rw [h8]); try kernel_rfl)
      ·
       have h6' := of_decide_eq_false h6
       refine AWp.dz [vi (i : Int), vb false, vb false, .tuple [], .tuple [], .tuple [], .tuple [], .tuple [], .tuple [], .tuple [], .tuple [], .tuple [], .tuple [], .tuple [], vb false] 55 [(54, vb false)] [] 2 ?_ ?_
       ·
        refine DSteps.cons (DStep.va) ?_
        refine DSteps.cons ((DStep.val (v := vb (decide ((i : Int) > 0))) (by kernel_rfl) (by kernel_rfl)).cast (congrArg vb h6)) ?_
        refine DSteps.cons (DStep.va) ?_
        refine DSteps.cons (DStep.skip (by kernel_rfl)) ?_
        refine DSteps.cons (DStep.skip (by kernel_rfl)) ?_
        refine DSteps.cons (DStep.skip (by kernel_rfl)) ?_
        refine DSteps.cons (DStep.skip (by kernel_rfl)) ?_
        refine DSteps.cons (DStep.skip (by kernel_rfl)) ?_
        refine DSteps.cons (DStep.skip (by kernel_rfl)) ?_
        refine DSteps.cons (DStep.skip (by kernel_rfl)) ?_
        refine DSteps.cons (DStep.skip (by kernel_rfl)) ?_
        refine DSteps.cons (DStep.skip (by kernel_rfl)) ?_
        refine DSteps.cons (DStep.skip (by kernel_rfl)) ?_
        refine DSteps.cons (DStep.skip (by kernel_rfl)) ?_
        refine DSteps.cons (DStep.va) ?_
        exact DSteps.nl
       refine AWp.cndF ?_
       refine AWp.skip ?_
       refine AWp.hz [.run 1] 55 [(4, vi 0)] [] 2 ?_
       refine AWp.ret ?_
       exact leafR (r := vi 0) (by unfold ritemM; (try simp only [he1_]); (try rw [h1]); (try rw [h3]); (try rw [h4]); (try rw [h5]); (try rw [h6]); try kernel_rfl)
def rmCheckM_B1 (m : MsgV) (k1_ : Nat) : Option Int :=
 (bif (ritemM m k1_ != 0) then some (ritemM m k1_) else none)
def rmCheckM_L1 (m : MsgV) : Option Int := scanN (rmCheckM_B1 m) 0 m.items.length
def rmCheckM (m : MsgV) : Int :=
 (bif (decide (m.kind < 1) || decide (m.kind > 7)) then 7 else (bif ((decide (m.dev < 1) || (decide (m.dev > 250) || !(rtickM m.epoch))) || !(rtickM m.version)) then 2 else (bif ((decide ((m.items.length : Int) > 7) || decide ((m.data.size : Int) > 512)) || ((m.kind == 7) && decide ((m.data.size : Int) > 64))) then 3 else (bif (!(rspareM m) || ((m.kind == 7) && !(rflagsM m.data))) then 4 else (rmCheckM_L1 m).getD (bif ((m.kind == 5) && (!(rvalidM m.cluster) || !(rvalidM m.name))) then 10 else 0)))))
abbrev rmCheckM_c1 (m : MsgV) : Nat × AObj := (0, .box 24 (avs (MsgV.cells m)))
abbrev rmCheckM_c2 (m : MsgV) : Nat × AV := (70, vi (m.items.length : Int))
theorem rmCheckM_ok (m : MsgV) (hd : m.data.size ≤ 1000000) :
 ACalls Try.prog G_ 12 [.agg (avs (MsgV.cells m))] [] 0 (fun r τ => r = vi (rmCheckM m) ∧ τ = []) := by
 refine ACalls.body Try.func12 rfl 96 [(0, .agg (avs (MsgV.cells m)))] ?_
 refine AWp.hz [.run 2] 96 [(1, .ptr 0 0)] [(rmCheckM_c1 m)] 1 ?_
 refine AWp.seq ?_
 refine AWp.join (Z 96 [(1, .ptr 0 0), (12, vb (decide (m.kind < 1) || decide (m.kind > 7)))] [(0, .box 24 (avs (MsgV.cells m)))] 1) ?_ ?_
 ·
  refine AWp.region ?_
  refine AOps.hg [.run 4] (decide (m.kind < 1)) 96 (fun b_ => [(1, .ptr 0 0), (8, vb b_)]) [(rmCheckM_c1 m)] 1 (fun hg1 => ?_) (fun hg1 => ?_)
  ·
   have hg1' := of_decide_eq_true hg1
   refine AOps.he [.run 4] 96 [(1, .ptr 0 0), (12, vb true)] [(rmCheckM_c1 m)] 1 ?_
   exact leZ (by rw [hg1]; try kernel_rfl)
  ·
   have hg1' := of_decide_eq_false hg1
   refine AOps.he [.run 4] 96 [(1, .ptr 0 0), (12, vb (decide (m.kind > 7)))] [(rmCheckM_c1 m)] 1 ?_
   exact leZ (by rw [hg1]; try kernel_rfl)
 ·
  refine AWp.cnd ((decide (m.kind < 1) || decide (m.kind > 7))) (fun h2 => ?_) (fun h2 => ?_)
  ·
   refine AWp.hz [.run 1] 96 [(2, vi 7)] [] 1 ?_
   refine AWp.ret ?_
   exact leafR (r := vi 7) (by unfold rmCheckM; (try rw [h2]); try kernel_rfl)
  ·
   have h2l := or_fl h2
   have h2l' := of_decide_eq_false h2l
   have h2r := or_fr h2
   have h2r' := of_decide_eq_false h2r
   refine AWp.skip ?_
   refine AWp.seq ?_
   refine AWp.join (Z 96 [(1, .ptr 0 0), (32, vb ((decide (m.dev < 1) || (decide (m.dev > 250) || !(rtickM m.epoch))) || !(rtickM m.version)))] [(0, .box 24 (avs (MsgV.cells m)))] 1) ?_ ?_
   ·
    refine AWp.region ?_
    refine AOps.hg [.run 4] (decide (m.dev < 1)) 96 (fun b_ => [(1, .ptr 0 0), (16, vb b_)]) [(rmCheckM_c1 m)] 1 (fun hg3 => ?_) (fun hg3 => ?_)
    ·
     have hg3' := of_decide_eq_true hg3
     refine AOps.he [.run 16] 96 [(1, .ptr 0 0), (32, vb true)] [(rmCheckM_c1 m)] 1 ?_
     exact leZ (by rw [hg3]; try kernel_rfl)
    ·
     have hg3' := of_decide_eq_false hg3
     refine AOps.hg [.run 5] (decide (m.dev > 250)) 96 (fun b_ => [(1, .ptr 0 0), (21, vb b_)]) [(rmCheckM_c1 m)] 1 (fun hg4 => ?_) (fun hg4 => ?_)
     ·
      have hg4' := of_decide_eq_true hg4
      refine AOps.he [.run 11] 96 [(1, .ptr 0 0), (32, vb true)] [(rmCheckM_c1 m)] 1 ?_
      exact leZ (by rw [hg3, hg4]; try kernel_rfl)
     ·
      have hg4' := of_decide_eq_false hg4
      refine AOps.hg [.run 2, .call 27 [vi m.epoch] (vb (rtickM m.epoch)) [] 0 (rtickM_ok m.epoch), .run 3] (!(rtickM m.epoch)) 96 (fun b_ => [(1, .ptr 0 0), (27, vb b_)]) [(rmCheckM_c1 m)] 1 (fun hg5 => ?_) (fun hg5 => ?_)
      ·
       refine AOps.he [.run 5] 96 [(1, .ptr 0 0), (32, vb true)] [(rmCheckM_c1 m)] 1 ?_
       exact leZ (by rw [hg3, hg4, hg5]; try kernel_rfl)
      ·
       refine AOps.he [.run 2, .call 27 [vi m.version] (vb (rtickM m.version)) [] 0 (rtickM_ok m.version), .run 2] 96 [(1, .ptr 0 0), (32, vb (!(rtickM m.version)))] [(rmCheckM_c1 m)] 1 ?_
       exact leZ (by rw [hg3, hg4, hg5]; try kernel_rfl)
   ·
    refine AWp.cnd (((decide (m.dev < 1) || (decide (m.dev > 250) || !(rtickM m.epoch))) || !(rtickM m.version))) (fun h6 => ?_) (fun h6 => ?_)
    ·
     refine AWp.hz [.run 1] 96 [(2, vi 2)] [] 1 ?_
     refine AWp.ret ?_
     exact leafR (r := vi 2) (by unfold rmCheckM; (try rw [h2]); (try rw [h6]); try kernel_rfl)
    ·
     have h6l := or_fl h6
     have h6ll := or_fl h6l
     have h6ll' := of_decide_eq_false h6ll
     have h6lr := or_fr h6l
     have h6lrl := or_fl h6lr
     have h6lrl' := of_decide_eq_false h6lrl
     have h6lrr := or_fr h6lr
     have h6r := or_fr h6
     refine AWp.skip ?_
     refine AWp.seq ?_
     refine AWp.join (Z 96 [(1, .ptr 0 0), (53, vb ((decide ((m.items.length : Int) > 7) || decide ((m.data.size : Int) > 512)) || ((m.kind == 7) && decide ((m.data.size : Int) > 64))))] [(0, .box 24 (avs (MsgV.cells m)))] 1) ?_ ?_
     ·
      refine AWp.region ?_
      refine AOps.hzl [.run 2, .len ItemV.cells m.items 7, .run 2] 96 [(1, .ptr 0 0), (37, vb (decide ((m.items.length : Int) > 7)))] [(rmCheckM_c1 m)] 1 (fun hl => ?_)
      obtain ⟨hn7, -⟩ := hl
      refine AOps.hg [] (decide ((m.items.length : Int) > 7)) 96 (fun b_ => [(1, .ptr 0 0), (37, vb b_)]) [(rmCheckM_c1 m)] 1 (fun hg8 => ?_) (fun hg8 => ?_)
      ·
       have hg8' := of_decide_eq_true hg8
       refine AOps.he [.run 16] 96 [(1, .ptr 0 0), (53, vb true)] [(rmCheckM_c1 m)] 1 ?_
       exact leZ (by rw [hg8]; try kernel_rfl)
      ·
       have hg8' := of_decide_eq_false hg8
       refine AOps.hg [.run 6] (decide ((m.data.size : Int) > 512)) 96 (fun b_ => [(1, .ptr 0 0), (43, vb b_)]) [(rmCheckM_c1 m)] 1 (fun hg9 => ?_) (fun hg9 => ?_)
       ·
        have hg9' := of_decide_eq_true hg9
        refine AOps.he [.run 10] 96 [(1, .ptr 0 0), (53, vb true)] [(rmCheckM_c1 m)] 1 ?_
        exact leZ (by rw [hg8, hg9]; try kernel_rfl)
       ·
        have hg9' := of_decide_eq_false hg9
        refine AOps.hg [.run 4] ((m.kind == 7)) 96 (fun b_ => [(1, .ptr 0 0), (43, vb false), (47, vb b_)]) [(rmCheckM_c1 m)] 1 (fun hg10 => ?_) (fun hg10 => ?_)
        ·
         refine AOps.he [.run 6] 96 [(1, .ptr 0 0), (53, vb (decide ((m.data.size : Int) > 64)))] [(rmCheckM_c1 m)] 1 ?_
         exact leZ (by rw [hg8, hg9, hg10]; try kernel_rfl)
        ·
         refine AOps.he [.run 6] 96 [(1, .ptr 0 0), (53, vb false)] [(rmCheckM_c1 m)] 1 ?_
         exact leZ (by rw [hg8, hg9, hg10]; try kernel_rfl)
     ·
      refine AWp.cnd (((decide ((m.items.length : Int) > 7) || decide ((m.data.size : Int) > 512)) || ((m.kind == 7) && decide ((m.data.size : Int) > 64)))) (fun h11 => ?_) (fun h11 => ?_)
      ·
       refine AWp.hz [.run 1] 96 [(2, vi 3)] [] 1 ?_
       refine AWp.ret ?_
       exact leafR (r := vi 3) (by unfold rmCheckM; (try rw [h2]); (try rw [h6]); (try rw [h11]); try kernel_rfl)
      ·
       have h11l := or_fl h11
       have h11ll := or_fl h11l
       have h11ll' := of_decide_eq_false h11ll
       have h11lr := or_fr h11l
       have h11lr' := of_decide_eq_false h11lr
       have h11r := or_fr h11
       refine AWp.skip ?_
       refine AWp.seq ?_
       refine AWp.join (Z 96 [(1, .ptr 0 0), (67, vb (!(rspareM m) || ((m.kind == 7) && !(rflagsM m.data))))] [(0, .box 24 (avs (MsgV.cells m)))] 1) ?_ ?_
       ·
        refine AWp.region ?_
        refine AOps.hg [.run 1, .call 28 [.agg (avs (MsgV.cells m))] (vb (rspareM m)) [] 0 (rspareM_ok m), .run 2] (!(rspareM m)) 96 (fun b_ => [(1, .ptr 0 0), (57, vb b_)]) [(rmCheckM_c1 m)] 1 (fun hg12 => ?_) (fun hg12 => ?_)
        ·
         refine AOps.he [.run 10] 96 [(1, .ptr 0 0), (67, vb true)] [(rmCheckM_c1 m)] 1 ?_
         exact leZ (by rw [hg12]; try kernel_rfl)
        ·
         refine AOps.hg [.run 4] ((m.kind == 7)) 96 (fun b_ => [(1, .ptr 0 0), (57, vb false), (61, vb b_)]) [(rmCheckM_c1 m)] 1 (fun hg13 => ?_) (fun hg13 => ?_)
         ·
          refine AOps.he [.run 2, .call 29 [vs m.data] (vb (rflagsM m.data)) [] 0 (rflagsM_ok m.data (by first | assumption | omega)), .run 3] 96 [(1, .ptr 0 0), (67, vb (!(rflagsM m.data)))] [(rmCheckM_c1 m)] 1 ?_
          exact leZ (by rw [hg12, hg13]; try kernel_rfl)
         ·
          refine AOps.he [.run 6] 96 [(1, .ptr 0 0), (67, vb false)] [(rmCheckM_c1 m)] 1 ?_
          exact leZ (by rw [hg12, hg13]; try kernel_rfl)
       ·
        refine AWp.cnd ((!(rspareM m) || ((m.kind == 7) && !(rflagsM m.data)))) (fun h14 => ?_) (fun h14 => ?_)
        ·
         refine AWp.hz [.run 1] 96 [(2, vi 4)] [] 1 ?_
         refine AWp.ret ?_
         exact leafR (r := vi 4) (by unfold rmCheckM; (try rw [h2]); (try rw [h6]); (try rw [h11]); (try rw [h14]); try kernel_rfl)
        ·
         have h14l := or_fl h14
         have h14r := or_fr h14
         refine AWp.skip ?_
         refine AWp.seq ?_
         refine AWp.hzl [.run 2, .len ItemV.cells m.items 7, .run 1] 96 [(1, .ptr 0 0), (rmCheckM_c2 m), (71, vi 0)] [(rmCheckM_c1 m)] 1 (fun hl => ?_)
         obtain ⟨hn15, -⟩ := hl
         refine AWp.block ?_
         refine AWp.loop (ι := Nat) (fun k1_ => Z 96 [(1, .ptr 0 0), (rmCheckM_c2 m), (71, vi (k1_ : Int))] [(rmCheckM_c1 m)] 1) (fun k1_ => k1_ ≤ m.items.length ∧ rmCheckM_L1 m = scanN (rmCheckM_B1 m) k1_ (m.items.length - k1_)) (fun k1_ => m.items.length - k1_) 0 leZ ⟨Nat.zero_le _, rfl⟩ ?_
         intro k1_ ⟨hk1_, hs1_⟩
         refine AWp.hz [.run 1] 96 [(1, .ptr 0 0), (rmCheckM_c2 m), (71, vi (k1_ : Int)), (72, vb (decide ((k1_ : Int) < (m.items.length : Int))))] [(rmCheckM_c1 m)] 1 ?_
         refine AWp.seq ?_
         refine AWp.cnd (decide ((k1_ : Int) < (m.items.length : Int))) (fun h16 => ?_) (fun h16 => ?_)
         ·
          have h16' := of_decide_eq_true h16
          refine AWp.skip ?_
          refine AWp.seq ?_
          refine AWp.block ?_
          refine AWp.hz [.run 2] 96 [(1, .ptr 0 0), (3, vi (k1_ : Int)), (rmCheckM_c2 m), (71, vi (k1_ : Int))] [(rmCheckM_c1 m)] 1 ?_
          refine AWp.hz [.run 2, .call 30 [.agg (avs (MsgV.cells m)), vi (k1_ : Int)] (vi (ritemM m k1_)) [] 0 (ritemM_ok m k1_ (by first | assumption | omega) (by first | assumption | omega)), .run 1] 96 [(1, .ptr 0 0), (4, vi (ritemM m k1_)), (rmCheckM_c2 m), (71, vi (k1_ : Int))] [(rmCheckM_c1 m)] 1 ?_
          refine AWp.hz [.run 2] 96 [(1, .ptr 0 0), (4, vi (ritemM m k1_)), (rmCheckM_c2 m), (71, vi (k1_ : Int)), (78, vb (ritemM m k1_ != 0))] [(rmCheckM_c1 m)] 1 ?_
          refine AWp.cnd ((ritemM m k1_ != 0)) (fun h17 => ?_) (fun h17 => ?_)
          ·
           refine AWp.hz [.run 2] 96 [(2, vi (ritemM m k1_))] [] 1 ?_
           refine AWp.ret ?_
           have hL1_ : rmCheckM_L1 m = some (ritemM m k1_) := scanN_some hs1_ (by omega) (by unfold rmCheckM_B1; (try rw [h16]); (try rw [h17]); try kernel_rfl)
           exact leafR (r := vi (ritemM m k1_)) (by unfold rmCheckM; (try rw [h2]); (try rw [h6]); (try rw [h11]); (try rw [h14]); (try rw [hL1_]); try kernel_rfl)
          ·
           refine AWp.skip ?_
           refine AWp.he [.cast (vi (IntKind.i64.wrap ((k1_ : Int) + 1))) (vi ((k1_ + 1 : Nat) : Int)) (congrArg vi (wrap_nat (by omega))), .run 1] 96 [(1, .ptr 0 0), (rmCheckM_c2 m), (71, vi ((k1_ + 1 : Nat) : Int))] [(rmCheckM_c1 m)] 1 ?_
           exact ⟨k1_ + 1, ⟨by omega, scanN_none hs1_ (by omega) (by unfold rmCheckM_B1; (try rw [h16]); (try rw [h17]); try kernel_rfl)⟩, by omega, leG⟩
         ·
          have h16' := of_decide_eq_false h16
          refine AWp.exit ?_
          have hL1_ : rmCheckM_L1 m = none := scanN_end hs1_ (by omega)
          refine AWp.seq ?_
          refine AWp.join (Z 96 [(95, vb ((m.kind == 5) && (!(rvalidM m.cluster) || !(rvalidM m.name))))] [] 1) ?_ ?_
          ·
           refine AWp.region ?_
           refine AOps.hg [.run 4] ((m.kind == 5)) 96 (fun b_ => [(1, .ptr 0 0), (84, vb b_)]) [(rmCheckM_c1 m)] 1 (fun hg18 => ?_) (fun hg18 => ?_)
           ·
            refine AOps.hg [.run 2, .call 31 [vs m.cluster] (vb (rvalidM m.cluster)) [] 0 (rvalidM_ok m.cluster), .run 2] (!(rvalidM m.cluster)) 96 (fun b_ => [(1, .ptr 0 0), (84, vb true), (89, vb b_)]) [(rmCheckM_c1 m)] 1 (fun hg19 => ?_) (fun hg19 => ?_)
            ·
             refine AOps.he [.run 6] 96 [(95, vb true)] [] 1 ?_
             exact leZ (by rw [hg18, hg19]; try kernel_rfl)
            ·
             refine AOps.he [.run 2, .call 31 [vs m.name] (vb (rvalidM m.name)) [] 0 (rvalidM_ok m.name), .run 3] 96 [(95, vb (!(rvalidM m.name)))] [] 1 ?_
             exact leZ (by rw [hg18, hg19]; try kernel_rfl)
           ·
            refine AOps.he [.run 11] 96 [(95, vb false)] [] 1 ?_
            exact leZ (by rw [hg18]; try kernel_rfl)
          ·
           refine AWp.cnd (((m.kind == 5) && (!(rvalidM m.cluster) || !(rvalidM m.name)))) (fun h20 => ?_) (fun h20 => ?_)
           ·
            have h20l := and_tl h20
            have h20r := and_tr h20
            refine AWp.hz [.run 1] 96 [(2, vi 10)] [] 1 ?_
            refine AWp.ret ?_
            exact leafR (r := vi 10) (by unfold rmCheckM; (try rw [h2]); (try rw [h6]); (try rw [h11]); (try rw [h14]); (try rw [hL1_]); (try rw [h20]); try kernel_rfl)
           ·
            refine AWp.skip ?_
            refine AWp.hz [.run 1] 96 [(2, vi 0)] [] 1 ?_
            refine AWp.ret ?_
            exact leafR (r := vi 0) (by unfold rmCheckM; (try rw [h2]); (try rw [h6]); (try rw [h11]); (try rw [h14]); (try rw [hL1_]); (try rw [h20]); try kernel_rfl)
def msameM_B1 (a b : MsgV) (k1_ : Nat) : Option Bool :=
 (match (a.items)[k1_]? with | some e1_ => (match (b.items)[k1_]? with | some e2_ => (bif !(((e1_.key.dev == e2_.key.dev) && (beqS e1_.key.cluster e2_.key.cluster && (beqS e1_.key.attr e2_.key.attr && true))) && (((e1_.value.kind == e2_.value.kind) && ((e1_.value.n == e2_.value.n) && (beqS e1_.value.s e2_.value.s && true))) && ((e1_.version == e2_.version) && true))) then some false else none) | none => none) | none => none)
def msameM_L1 (a b : MsgV) : Option Bool := scanN (msameM_B1 a b) 0 a.items.length
def msameM (a b : MsgV) : Bool :=
 (bif (((a.kind != b.kind) || ((a.dev != b.dev) || ((a.epoch != b.epoch) || ((a.version != b.version) || (!beqS a.cluster b.cluster || (!beqS a.name b.name || !beqS a.data b.data)))))) || ((a.items.length : Int) != (b.items.length : Int))) then false else (msameM_L1 a b).getD true)
abbrev msameM_c1 (b : MsgV) : Nat × AObj := (1, .box 24 (avs (MsgV.cells b)))
abbrev msameM_c2 (a : MsgV) : Nat × AObj := (0, .box 24 (avs (MsgV.cells a)))
abbrev msameM_c3 (a : MsgV) : Nat × AV := (64, vi (a.items.length : Int))
theorem msameM_ok (a b : MsgV) :
 ACalls Try.prog G_ 17 [.agg (avs (MsgV.cells a)), .agg (avs (MsgV.cells b))] [] 0 (fun r τ => r = vb (msameM a b) ∧ τ = []) := by
 refine ACalls.body Try.func17 rfl 80 [(0, .agg (avs (MsgV.cells a))), (1, .agg (avs (MsgV.cells b)))] ?_
 refine AWp.hz [.run 3] 80 [(2, .ptr 0 0), (3, .ptr 1 0)] [(msameM_c1 b), (msameM_c2 a)] 2 ?_
 refine AWp.seq ?_
 refine AWp.join (Z 80 [(2, .ptr 0 0), (3, .ptr 1 0), (61, vb (((a.kind != b.kind) || ((a.dev != b.dev) || ((a.epoch != b.epoch) || ((a.version != b.version) || (!beqS a.cluster b.cluster || (!beqS a.name b.name || !beqS a.data b.data)))))) || ((a.items.length : Int) != (b.items.length : Int))))] [(1, .box 24 (avs (MsgV.cells b))), (0, .box 24 (avs (MsgV.cells a)))] 2) ?_ ?_
 ·
  refine AWp.region ?_
  refine AOps.hg [.run 6] ((a.kind != b.kind)) 80 (fun b_ => [(2, .ptr 0 0), (3, .ptr 1 0), (11, vb b_)]) [(msameM_c1 b), (msameM_c2 a)] 2 (fun hg1 => ?_) (fun hg1 => ?_)
  ·
   refine AOps.he [.run 50] 80 [(2, .ptr 0 0), (3, .ptr 1 0), (61, vb true)] [(msameM_c1 b), (msameM_c2 a)] 2 ?_
   exact leZ (by rw [hg1]; try kernel_rfl)
  ·
   refine AOps.hg [.run 7] ((a.dev != b.dev)) 80 (fun b_ => [(2, .ptr 0 0), (3, .ptr 1 0), (18, vb b_)]) [(msameM_c1 b), (msameM_c2 a)] 2 (fun hg2 => ?_) (fun hg2 => ?_)
   ·
    refine AOps.he [.run 43] 80 [(2, .ptr 0 0), (3, .ptr 1 0), (61, vb true)] [(msameM_c1 b), (msameM_c2 a)] 2 ?_
    exact leZ (by rw [hg1, hg2]; try kernel_rfl)
   ·
    refine AOps.hg [.run 7] ((a.epoch != b.epoch)) 80 (fun b_ => [(2, .ptr 0 0), (3, .ptr 1 0), (25, vb b_)]) [(msameM_c1 b), (msameM_c2 a)] 2 (fun hg3 => ?_) (fun hg3 => ?_)
    ·
     refine AOps.he [.run 36] 80 [(2, .ptr 0 0), (3, .ptr 1 0), (61, vb true)] [(msameM_c1 b), (msameM_c2 a)] 2 ?_
     exact leZ (by rw [hg1, hg2, hg3]; try kernel_rfl)
    ·
     refine AOps.hg [.run 7] ((a.version != b.version)) 80 (fun b_ => [(2, .ptr 0 0), (3, .ptr 1 0), (32, vb b_)]) [(msameM_c1 b), (msameM_c2 a)] 2 (fun hg4 => ?_) (fun hg4 => ?_)
     ·
      refine AOps.he [.run 29] 80 [(2, .ptr 0 0), (3, .ptr 1 0), (61, vb true)] [(msameM_c1 b), (msameM_c2 a)] 2 ?_
      exact leZ (by rw [hg1, hg2, hg3, hg4]; try kernel_rfl)
     ·
      refine AOps.hg [.run 7] (!beqS a.cluster b.cluster) 80 (fun b_ => [(2, .ptr 0 0), (3, .ptr 1 0), (39, vb b_)]) [(msameM_c1 b), (msameM_c2 a)] 2 (fun hg5 => ?_) (fun hg5 => ?_)
      ·
       refine AOps.he [.run 22] 80 [(2, .ptr 0 0), (3, .ptr 1 0), (61, vb true)] [(msameM_c1 b), (msameM_c2 a)] 2 ?_
       exact leZ (by rw [hg1, hg2, hg3, hg4, hg5]; try kernel_rfl)
      ·
       refine AOps.hg [.run 7] (!beqS a.name b.name) 80 (fun b_ => [(2, .ptr 0 0), (3, .ptr 1 0), (46, vb b_)]) [(msameM_c1 b), (msameM_c2 a)] 2 (fun hg6 => ?_) (fun hg6 => ?_)
       ·
        refine AOps.he [.run 15] 80 [(2, .ptr 0 0), (3, .ptr 1 0), (61, vb true)] [(msameM_c1 b), (msameM_c2 a)] 2 ?_
        exact leZ (by rw [hg1, hg2, hg3, hg4, hg5, hg6]; try kernel_rfl)
       ·
        refine AOps.hg [.run 7] (!beqS a.data b.data) 80 (fun b_ => [(2, .ptr 0 0), (3, .ptr 1 0), (53, vb b_)]) [(msameM_c1 b), (msameM_c2 a)] 2 (fun hg7 => ?_) (fun hg7 => ?_)
        ·
         refine AOps.he [.run 8] 80 [(2, .ptr 0 0), (3, .ptr 1 0), (61, vb true)] [(msameM_c1 b), (msameM_c2 a)] 2 ?_
         exact leZ (by rw [hg1, hg2, hg3, hg4, hg5, hg6, hg7]; try kernel_rfl)
        ·
         refine AOps.hel [.run 2, .len ItemV.cells a.items 7, .run 2, .len ItemV.cells b.items 7, .run 2] 80 [(2, .ptr 0 0), (3, .ptr 1 0), (61, vb ((a.items.length : Int) != (b.items.length : Int)))] [(msameM_c1 b), (msameM_c2 a)] 2 (fun hl => ?_)
         obtain ⟨hn8, hn9, -⟩ := hl
         exact leZ (by rw [hg1, hg2, hg3, hg4, hg5, hg6, hg7]; try kernel_rfl)
 ·
  refine AWp.cnd ((((a.kind != b.kind) || ((a.dev != b.dev) || ((a.epoch != b.epoch) || ((a.version != b.version) || (!beqS a.cluster b.cluster || (!beqS a.name b.name || !beqS a.data b.data)))))) || ((a.items.length : Int) != (b.items.length : Int)))) (fun h10 => ?_) (fun h10 => ?_)
  ·
   refine AWp.hz [.run 1] 80 [(4, vb false)] [] 2 ?_
   refine AWp.ret ?_
   exact leafR (r := vb false) (by unfold msameM; (try rw [h10]); try kernel_rfl)
  ·
   have h10l := or_fl h10
   have h10ll := or_fl h10l
   have h10lr := or_fr h10l
   have h10lrl := or_fl h10lr
   have h10lrr := or_fr h10lr
   have h10lrrl := or_fl h10lrr
   have h10lrrr := or_fr h10lrr
   have h10lrrrl := or_fl h10lrrr
   have h10lrrrr := or_fr h10lrrr
   have h10r := or_fr h10
   have h10r' := bne_f h10r
   refine AWp.skip ?_
   refine AWp.seq ?_
   refine AWp.hzl [.run 2, .len ItemV.cells a.items 7, .run 1] 80 [(2, .ptr 0 0), (3, .ptr 1 0), (msameM_c3 a), (65, vi 0)] [(msameM_c1 b), (msameM_c2 a)] 2 (fun hl => ?_)
   obtain ⟨hn11, -⟩ := hl
   refine AWp.block ?_
   refine AWp.loop (ι := Nat) (fun k1_ => Z 80 [(2, .ptr 0 0), (3, .ptr 1 0), (msameM_c3 a), (65, vi (k1_ : Int))] [(msameM_c1 b), (msameM_c2 a)] 2) (fun k1_ => k1_ ≤ a.items.length ∧ msameM_L1 a b = scanN (msameM_B1 a b) k1_ (a.items.length - k1_)) (fun k1_ => a.items.length - k1_) 0 leZ ⟨Nat.zero_le _, rfl⟩ ?_
   intro k1_ ⟨hk1_, hs1_⟩
   refine AWp.hz [.run 1] 80 [(2, .ptr 0 0), (3, .ptr 1 0), (msameM_c3 a), (65, vi (k1_ : Int)), (66, vb (decide ((k1_ : Int) < (a.items.length : Int))))] [(msameM_c1 b), (msameM_c2 a)] 2 ?_
   refine AWp.seq ?_
   refine AWp.cnd (decide ((k1_ : Int) < (a.items.length : Int))) (fun h12 => ?_) (fun h12 => ?_)
   ·
    have h12' := of_decide_eq_true h12
    refine AWp.skip ?_
    refine AWp.seq ?_
    refine AWp.block ?_
    refine AWp.hz [.run 2] 80 [(2, .ptr 0 0), (3, .ptr 1 0), (5, vi (k1_ : Int)), (msameM_c3 a), (65, vi (k1_ : Int))] [(msameM_c1 b), (msameM_c2 a)] 2 ?_
    obtain ⟨e1_, he1_⟩ := getEx (l := a.items) (j := k1_) (by omega)
    obtain ⟨e2_, he2_⟩ := getEx (l := b.items) (j := k1_) (by omega)
    refine AWp.dz [.ptr 0 4, .rv (.sl 7 (a.items.map ItemV.cells)), vi (k1_ : Int), .rv (.ptr (ItemV.cells e1_)), .agg (avs (ItemV.cells e1_)), .ptr 1 4, .rv (.sl 7 (b.items.map ItemV.cells)), vi (k1_ : Int), .rv (.ptr (ItemV.cells e2_)), .agg (avs (ItemV.cells e2_)), vb (!(((e1_.key.dev == e2_.key.dev) && (beqS e1_.key.cluster e2_.key.cluster && (beqS e1_.key.attr e2_.key.attr && true))) && (((e1_.value.kind == e2_.value.kind) && ((e1_.value.n == e2_.value.n) && (beqS e1_.value.s e2_.value.s && true))) && ((e1_.version == e2_.version) && true))))] 80 [(2, .ptr 0 0), (3, .ptr 1 0), (msameM_c3 a), (65, vi (k1_ : Int)), (78, vb (!(((e1_.key.dev == e2_.key.dev) && (beqS e1_.key.cluster e2_.key.cluster && (beqS e1_.key.attr e2_.key.attr && true))) && (((e1_.value.kind == e2_.value.kind) && ((e1_.value.n == e2_.value.n) && (beqS e1_.value.s e2_.value.s && true))) && ((e1_.version == e2_.version) && true)))))] [(msameM_c1 b), (msameM_c2 a)] 2 ?_ ?_
    ·
     refine DSteps.cons (DStep.va) ?_
     refine DSteps.cons (DStep.va) ?_
     refine DSteps.cons (DStep.va) ?_
     refine DSteps.cons (DStep.vs (by kernel_rfl) (R_indexAddrM ItemV.cells a.items 7 k1_ rfl (by kernel_rfl) (by kernel_rfl) (by kernel_rfl) he1_)) ?_
     refine DSteps.cons (DStep.va) ?_
     refine DSteps.cons (DStep.va) ?_
     refine DSteps.cons (DStep.va) ?_
     refine DSteps.cons (DStep.va) ?_
     refine DSteps.cons (DStep.vs (by kernel_rfl) (R_indexAddrM ItemV.cells b.items 7 k1_ rfl (by kernel_rfl) (by kernel_rfl) (by kernel_rfl) he2_)) ?_
     refine DSteps.cons (DStep.va) ?_
     refine DSteps.cons (DStep.va) ?_
     exact DSteps.nl
    refine AWp.cnd (!(((e1_.key.dev == e2_.key.dev) && (beqS e1_.key.cluster e2_.key.cluster && (beqS e1_.key.attr e2_.key.attr && true))) && (((e1_.value.kind == e2_.value.kind) && ((e1_.value.n == e2_.value.n) && (beqS e1_.value.s e2_.value.s && true))) && ((e1_.version == e2_.version) && true)))) (fun h13 => ?_) (fun h13 => ?_)
    ·
     refine AWp.hz [.run 1] 80 [(4, vb false)] [] 2 ?_
     refine AWp.ret ?_
     have hL1_ : msameM_L1 a b = some false := scanN_some hs1_ (by omega) (by unfold msameM_B1; (try simp only [he1_]); (try simp only [he2_]); (try rw [h12]); (try rw [h13]); try kernel_rfl)
     exact leafR (r := vb false) (by unfold msameM; (try rw [h10]); (try rw [hL1_]); try kernel_rfl)
    ·
     refine AWp.skip ?_
     refine AWp.he [.cast (vi (IntKind.i64.wrap ((k1_ : Int) + 1))) (vi ((k1_ + 1 : Nat) : Int)) (congrArg vi (wrap_nat (by omega))), .run 1] 80 [(2, .ptr 0 0), (3, .ptr 1 0), (msameM_c3 a), (65, vi ((k1_ + 1 : Nat) : Int))] [(msameM_c1 b), (msameM_c2 a)] 2 ?_
     exact ⟨k1_ + 1, ⟨by omega, scanN_none hs1_ (by omega) (by unfold msameM_B1; (try simp only [he1_]); (try simp only [he2_]); (try rw [h12]); (try rw [h13]); try kernel_rfl)⟩, by omega, leG⟩
   ·
    have h12' := of_decide_eq_false h12
    refine AWp.exit ?_
    have hL1_ : msameM_L1 a b = none := scanN_end hs1_ (by omega)
    refine AWp.hz [.run 1] 80 [(4, vb true)] [] 2 ?_
    refine AWp.ret ?_
    exact leafR (r := vb true) (by unfold msameM; (try rw [h10]); (try rw [hL1_]); try kernel_rfl)
end Go.Proofs.Ytnnlaccdendkpaa
