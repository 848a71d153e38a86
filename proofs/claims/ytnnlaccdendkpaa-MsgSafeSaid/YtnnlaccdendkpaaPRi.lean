/- Messages: what was encoded is decoded, and nothing else. Conditions: none. -/
import Derived.Test.YtnnlaccdendkpaaPRh
namespace Go.Proofs.Ytnnlaccdendkpaa
open Go Go.Av Go.Hh Go.Proofs
def Bad {α : Type} (read : Rd → α × Rd) : Prop := ∀ r, rdErrM r ≠ 0 → rdErrM (read r).2 ≠ 0
theorem Bad.int : Bad rdIntM := fun r h => by rw [int_bad h]; exact h
theorem Bad.count (n : Int) : Bad (fun r => rdCountM r n) := fun r h => by
 show rdErrM (rdCountM r n).2 ≠ 0
 rw [count_bad n h]; exact h
theorem Bad.text (n : Int) : Bad (fun r => rdTextM r n) := fun r h => by
 show rdErrM (rdTextM r n).2 ≠ 0
 rw [text_bad n h]; exact h
theorem Bad.take : Bad takeM := fun r h => by rw [take_bad h]; exact h
theorem Bad.bnd {α β : Type} {R1 : Rd → α × Rd} {R2 : α → Rd → β × Rd} (h1 : Bad R1) (h2 : ∀ a, Bad (R2 a)) : Bad (bnd R1 R2) := fun r h => h2 _ _ (h1 r h)
theorem Bad.opt {α : Type} {R : Rd → α × Rd} {d : α} (c : Bool) (h : Bad R) : Bad (opt c d R) := fun r hr => by
 cases c with
 | true => exact h r hr
 | false => exact hr
theorem Bad.mapR {α β : Type} {f : α → β} {R : Rd → α × Rd} (h : Bad R) : Bad (mapR f R) := fun r hr => h r hr
theorem Bad.many {α : Type} {R : Rd → α × Rd} (h : Bad R) : ∀ n, Bad (rmany R n)
 | 0, r, hr => hr
 | n + 1, r, hr => Bad.many h n _ (h r hr)
section
variable {α β : Type}
theorem Undo.bnd {R1 : Rd → α × Rd} {R2 : α → Rd → β × Rd} {W1 : α → ByteArray} {W2 : α → β → ByteArray} {O1 : α → Prop} {O2 : α → β → Prop} (h1 : Undo R1 W1 O1) (hb : ∀ a, Bad (R2 a)) (h2 : ∀ a, O1 a → Undo (R2 a) (W2 a) (O2 a)) :
    Undo (bnd R1 R2) (fun p => W1 p.1 ++ W2 p.1 p.2) (fun p => O1 p.1 ∧ O2 p.1 p.2) := by
  refine ⟨fun p t hp => ?_, fun r h => ?_⟩
  · unfold Go.Proofs.Ytnnlaccdendkpaa.bnd
    rw [ByteArray.append_assoc, h1.enc p.1 _ hp.1]
    dsimp only
    rw [(h2 p.1 hp.1).enc p.2 t hp.2]
  · have h0 : rdErrM (R1 r).2 = 0 := by
      by_cases h0 : rdErrM (R1 r).2 = 0
      · exact h0
      · exact absurd h (hb _ _ h0)
    obtain ⟨a, t, rfl, ha, hr⟩ := h1.dec r h0
    unfold Go.Proofs.Ytnnlaccdendkpaa.bnd at h ⊢
    rw [hr] at h ⊢
    dsimp only at h ⊢
    obtain ⟨b, t2, ht, hb2, hr2⟩ := (h2 a ha).dec _ h
    cases ht
    exact ⟨(a, b), t2, by rw [ByteArray.append_assoc], ⟨ha, hb2⟩, by rw [hr2]⟩
theorem Undo.opt {R : Rd → α × Rd} {W : α → ByteArray} {O : α → Prop} (d : α) (c : Bool) (h : Undo R W O) : Undo (opt c d R) (fun a => bif c then W a else ⟨#[]⟩) (fun a => if c = true then O a else a = d) := by
 cases c with
 | true => exact ⟨fun a t ha => h.enc a t ha, fun r hr => h.dec r hr⟩
 | false =>
  refine ⟨fun a t ha => ?_, fun r hr0 => ?_⟩
  ·have ha : a = d := ha
   subst ha
   show (a, rd0 ((⟨#[]⟩ : ByteArray) ++ t)) = _
   rw [nil_app]
  ·have hr : rdErrM r = 0 := hr0
   refine ⟨d, r.rest, ?_, rfl, ?_⟩
   ·show r = rd0 ((⟨#[]⟩ : ByteArray) ++ r.rest)
    rw [nil_app]
    exact rd_ok hr
   ·show (d, r) = (d, rd0 r.rest)
    rw [← rd_ok hr]
theorem Undo.mapR {R : Rd → α × Rd} {W : α → ByteArray} {O : α → Prop} (f : α → β) (g : β → α) (hg : ∀ a, g (f a) = a) (h : Undo R W O) : Undo (mapR f R) (fun b => W (g b)) (fun b => f (g b) = b ∧ O (g b)) := by
 refine ⟨fun b t hb => ?_, fun r hr => ?_⟩
 ·unfold Go.Proofs.Ytnnlaccdendkpaa.mapR
  rw [h.enc (g b) t hb.2]
  dsimp only
  rw [hb.1]
 ·obtain ⟨a, t, rfl, ha, hr2⟩ := h.dec r hr
  refine ⟨f a, t, by rw [hg], ⟨by rw [hg], by rw [hg]; exact ha⟩, ?_⟩
  unfold Go.Proofs.Ytnnlaccdendkpaa.mapR
  rw [hr2]
theorem Undo.conv {R : Rd → α × Rd} {W W' : α → ByteArray} {O O' : α → Prop} (h : Undo R W O) (hW : ∀ a, O a → W a = W' a) (hO : ∀ a, O a ↔ O' a) : Undo R W' O' :=
 ⟨fun a t ha => by rw [← hW a ((hO a).2 ha)]; exact h.enc a t ((hO a).2 ha), fun r hr => by
  obtain ⟨a, t, h1, h2, h3⟩ := h.dec r hr
  exact ⟨a, t, by rw [h1, hW a h2], (hO a).1 h2, h3⟩⟩
end
theorem many_undo {R : Rd → ItemV × Rd} {O : ItemV → Prop} (h : Undo R encItem O) (hb : Bad R) : ∀ n : Nat, Undo (rmany R n) encItems (fun l => l.length = n ∧ ∀ x ∈ l, O x)
 | 0 => by
  refine ⟨fun l t hl => ?_, fun r hr0 => ?_⟩
  ·have : l = [] := List.length_eq_zero_iff.1 hl.1
   subst this
   show ([], rd0 ((⟨#[]⟩ : ByteArray) ++ t)) = _
   rw [nil_app]
  ·have hr : rdErrM r = 0 := hr0
   refine ⟨[], r.rest, ?_, ⟨rfl, fun _ h => nomatch h⟩, ?_⟩
   ·show r = rd0 ((⟨#[]⟩ : ByteArray) ++ r.rest)
    rw [nil_app]
    exact rd_ok hr
   ·show ([], r) = ([], rd0 r.rest)
    rw [← rd_ok hr]
 | n + 1 => by
  have ih := many_undo h hb n
  refine ⟨fun l t hl => ?_, fun r hr => ?_⟩
  ·cases l with
   | nil => cases hl.1
   | cons x l =>
    have he : R (rd0 (encItems (x :: l) ++ t)) = (x, rd0 (encItems l ++ t)) := by
     show R (rd0 ((encItem x ++ encItems l) ++ t)) = _
     rw [ByteArray.append_assoc]
     exact h.enc x _ (hl.2 x (by simp))
    unfold rmany
    rw [he]
    dsimp only
    rw [ih.enc l t ⟨by have := hl.1; simp at this; omega, fun y hy => hl.2 y (by simp [hy])⟩]
  ·unfold rmany at hr ⊢
   have h0 : rdErrM (R r).2 = 0 := by
    by_cases h0 : rdErrM (R r).2 = 0
    ·exact h0
    ·exact absurd hr (Bad.many hb n _ h0)
   obtain ⟨x, t, rfl, hx, hr1⟩ := h.dec r h0
   rw [hr1] at hr ⊢
   dsimp only at hr ⊢
   obtain ⟨l, t2, ht, hl, hr2⟩ := ih.dec _ hr
   cases ht
   refine ⟨x :: l, t2, ?_, ⟨by simp [hl.1], fun y hy => ?_⟩, by rw [hr2]⟩
   ·show rd0 (encItem x ++ (encItems l ++ t2)) = rd0 ((encItem x ++ encItems l) ++ t2)
    rw [ByteArray.append_assoc]
   ·rcases List.mem_cons.1 hy with rfl | hy
    ·exact hx
    ·exact hl.2 y hy
def ItemOk (dev : Int) (x : ItemV) : Prop := x.key.dev = dev ∧ (x.key.cluster.size : Int) ≤ 24 ∧ (x.key.attr.size : Int) ≤ 24 ∧ vCheckM x.value = 0 ∧ I64 x.version
theorem text24 : Undo (fun r => rdTextM r 24) wtextM (fun s => (s.size : Int) ≤ 24) := text_undo (by decide) (by decide)
theorem text512 : Undo (fun r => rdTextM r 512) wtextM (fun s => (s.size : Int) ≤ 512) := text_undo (by decide) (by decide)
theorem count7 : Undo (fun r => rdCountM r 7) wintM (fun a => 0 ≤ a ∧ a ≤ 7) := count_undo (by decide) (by decide)
abbrev ditem (dev : Int) : Rd → ItemV × Rd := ritem rdIntM (fun r => rdTextM r 24) takeM dev
theorem ditem_bad (dev : Int) : Bad (ditem dev) := Bad.mapR (Bad.bnd (Bad.text 24) fun _ => Bad.bnd (Bad.text 24) fun _ => Bad.bnd Bad.take fun _ => Bad.int)
theorem item_undo (dev : Int) : Undo (ditem dev) encItem (ItemOk dev) := by
 have h := Undo.mapR (fun p : ByteArray × ByteArray × Val × Int => (⟨⟨dev, p.1, p.2.1⟩, p.2.2.1, p.2.2.2⟩ : ItemV)) (fun x => (x.key.cluster, x.key.attr, x.value, x.version)) (fun a => rfl)
  (Undo.bnd text24 (fun _ => Bad.bnd (Bad.text 24) fun _ => Bad.bnd Bad.take fun _ => Bad.int) fun _ _ => Undo.bnd text24 (fun _ => Bad.bnd Bad.take fun _ => Bad.int) fun _ _ => Undo.bnd take_undo (fun _ => Bad.int) fun _ _ => int_undo)
 refine Undo.conv h (fun x hx => rfl) fun x => ?_
 obtain ⟨⟨d, c, a⟩, v, n⟩ := x
 unfold ItemOk
 dsimp only
 constructor
 ·rintro ⟨h1, h2, h3, h4, h5⟩
  refine ⟨?_, h2, h3, h4, h5⟩
  injection h1 with h1
  injection h1 with h1
  exact h1.symm
 ·rintro ⟨h1, h2, h3, h4, h5⟩
  exact ⟨by rw [h1], h2, h3, h4, h5⟩
def BodyOk (k : Int) (m : MsgV) : Prop :=
 m.kind = k ∧ I64 m.dev ∧ (if hasEpochM k = true then I64 m.epoch else m.epoch = 0) ∧ I64 m.version ∧ (if hasItemsM k = true then m.items.length ≤ 7 ∧ ∀ x ∈ m.items, ItemOk m.dev x else m.items = []) ∧
 (if hasNamesM k = true then (m.cluster.size : Int) ≤ 24 else m.cluster = ⟨#[]⟩) ∧ (if hasNamesM k = true then (m.name.size : Int) ≤ 24 else m.name = ⟨#[]⟩) ∧ (if hasDataM k = true then (m.data.size : Int) ≤ 512 else m.data = ⟨#[]⟩)
theorem list_bad (dev : Int) : Bad (rlist rdIntM (fun r => rdCountM r 7) (fun r => rdTextM r 24) takeM dev) := Bad.mapR (Bad.bnd (Bad.count 7) fun _ => Bad.many (ditem_bad dev) _)
theorem list_undo (dev : Int) : Undo (rlist rdIntM (fun r => rdCountM r 7) (fun r => rdTextM r 24) takeM dev) (fun l => wintM (l.length : Int) ++ encItems l) (fun l => l.length ≤ 7 ∧ ∀ x ∈ l, ItemOk dev x) := by
 have h := Undo.bnd count7 (fun n => Bad.many (ditem_bad dev) n.toNat) fun n _ => many_undo (item_undo dev) (ditem_bad dev) n.toNat
 refine ⟨fun l t hl => ?_, fun r hr => ?_⟩
 ·have := h.enc ((l.length : Int), l) t ⟨⟨by dsimp only; omega, by dsimp only; omega⟩, by dsimp only; omega, hl.2⟩
  unfold rlist Go.Proofs.Ytnnlaccdendkpaa.mapR
  rw [this]
 ·obtain ⟨p, t, rfl, ⟨⟨h1, h2⟩, h3, h4⟩, hr2⟩ := h.dec r hr
  refine ⟨p.2, t, ?_, ⟨by omega, h4⟩, ?_⟩
  ·have : (p.2.length : Int) = p.1 := by omega
   try dsimp only
   rw [this]
  ·unfold rlist Go.Proofs.Ytnnlaccdendkpaa.mapR
   rw [hr2]
theorem body_undo (k : Int) : Undo (dbody k) encBody (BodyOk k) := by
 have hb7 : Bad (opt (hasDataM k) (⟨#[]⟩ : ByteArray) (fun r => rdTextM r 512)) := Bad.opt _ (Bad.text 512)
 have hb6 : ∀ _ : ByteArray, Bad (bnd (opt (hasNamesM k) (⟨#[]⟩ : ByteArray) (fun r => rdTextM r 24)) fun _ => opt (hasDataM k) (⟨#[]⟩ : ByteArray) (fun r => rdTextM r 512)) := fun _ => Bad.bnd (Bad.opt _ (Bad.text 24)) fun _ => hb7
 have hb5 : ∀ _ : List ItemV, Bad (bnd (opt (hasNamesM k) (⟨#[]⟩ : ByteArray) (fun r => rdTextM r 24)) fun _ => bnd (opt (hasNamesM k) (⟨#[]⟩ : ByteArray) (fun r => rdTextM r 24)) fun _ => opt (hasDataM k) (⟨#[]⟩ : ByteArray) (fun r => rdTextM r 512)) := fun _ => Bad.bnd (Bad.opt _ (Bad.text 24)) hb6
 have hb4 := fun (d : Int) (_ : Int) => Bad.bnd (Bad.opt (d := ([] : List ItemV)) (hasItemsM k) (list_bad d)) hb5
 have hb3 := fun (d : Int) (_ : Int) => Bad.bnd Bad.int (hb4 d)
 have hb2 := fun (d : Int) => Bad.bnd (Bad.opt (d := (0 : Int)) (hasEpochM k) Bad.int) (hb3 d)
 have h := Undo.mapR (fun p : Int × Int × Int × List ItemV × ByteArray × ByteArray × ByteArray => (⟨k, p.1, p.2.1, p.2.2.1, p.2.2.2.1, p.2.2.2.2.1, p.2.2.2.2.2.1, p.2.2.2.2.2.2⟩ : MsgV)) (fun m => (m.dev, m.epoch, m.version, m.items, m.cluster, m.name, m.data)) (fun a => rfl)
  (Undo.bnd int_undo hb2 fun d _ => Undo.bnd (Undo.opt 0 (hasEpochM k) int_undo) (hb3 d) fun _ _ => Undo.bnd int_undo (hb4 d) fun _ _ => Undo.bnd (Undo.opt [] (hasItemsM k) (list_undo d)) hb5 fun _ _ =>
   Undo.bnd (Undo.opt ⟨#[]⟩ (hasNamesM k) text24) hb6 fun _ _ => Undo.bnd (Undo.opt ⟨#[]⟩ (hasNamesM k) text24) (fun _ => hb7) fun _ _ => Undo.opt ⟨#[]⟩ (hasDataM k) text512)
 refine Undo.conv h (fun m hm => ?_) fun m => ?_
 ·obtain ⟨h1, _⟩ := hm
  have hk : m.kind = k := by rw [← h1]
  unfold encBody
  rw [hk]
 ·obtain ⟨k', d, e, v, l, c, n, x⟩ := m
  unfold BodyOk
  dsimp only
  constructor
  ·rintro ⟨h1, h2⟩
   injection h1 with h1
   exact ⟨h1.symm, h2⟩
  ·rintro ⟨h1, h2⟩
   exact ⟨by rw [h1], h2⟩
theorem spare_spec {m : MsgV} (h : spareM m = false) : (hasItemsM m.kind = false → m.items = []) ∧ (hasEpochM m.kind = false → m.epoch = 0) ∧ (hasDataM m.kind = false → m.data = ⟨#[]⟩) := by
 unfold spareM at h
 rw [Bool.or_eq_false_iff, Bool.or_eq_false_iff] at h
 obtain ⟨⟨h1, h2⟩, _⟩ := h
 refine ⟨fun hi => ?_, fun he => ?_, fun hd => ?_⟩
 ·rw [hi] at h1
  have := of_decide_eq_false (by simpa using h1 : decide ((m.items.length : Int) > 0) = false)
  exact List.length_eq_zero_iff.1 (by omega)
 ·rw [he] at h2
  simp only [Bool.not_false, cond_true, Bool.or_eq_false_iff, bne_eq_false_iff_eq] at h2
  exact h2.1.1
 ·rw [hd] at h2
  cases he : hasEpochM m.kind <;> rw [he] at h2 <;> simp only [Bool.not_false, Bool.not_true, cond_true, cond_false, Bool.or_eq_false_iff, Bool.true_and, Bool.not_eq_false'] at h2 <;> exact beqS_true.1 h2.2
theorem body_ok {m : MsgV} (h : mCheckM m = 0) : BodyOk m.kind m := by
 have hm := msg_ok h
 obtain ⟨s1, s2, s3⟩ := spare_spec hm.spare
 refine ⟨rfl, ⟨by have := hm.dev; omega, by have := hm.dev; omega⟩, ?_, ⟨by have := hm.version; omega, by have := hm.version; omega⟩, ?_, ?_, ?_, ?_⟩
 ·split
  ·exact ⟨by have := hm.epoch; omega, by have := hm.epoch; omega⟩
  ·rename_i hq; exact s2 (by simpa using hq)
 ·split
  ·refine ⟨hm.len, fun x hx => ?_⟩
   obtain ⟨j, hj⟩ := List.getElem?_of_mem hx
   obtain ⟨i1, i2, i3, i4, i5, i6⟩ := item_spec (hm.item j x hj)
   have := valid_size i2
   have := valid_size i3
   exact ⟨i1, by omega, by omega, i4, by omega, by omega⟩
  ·rename_i hq; exact s1 (by simpa using hq)
 ·split
  ·rename_i hq; have := valid_size (hm.names hq).1; omega
  ·rename_i hq; exact (spare_names hm.spare (by simpa using hq)).1
 ·split
  ·rename_i hq; have := valid_size (hm.names hq).2; omega
  ·rename_i hq; exact (spare_names hm.spare (by simpa using hq)).2
 ·split
  ·have := hm.data; omega
  ·rename_i hq; exact s3 (by simpa using hq)
def encM (m : MsgV) : ByteArray := wintM m.kind ++ encBody m
theorem encode_ok {m : MsgV} (h : mCheckM m = 0) : encodeM m = (encM m, 0) := by
 unfold encodeM
 rw [show (mCheckM m != 0) = false by simpa using h, bodyE_eq]
 rfl
theorem encode_bad {m : MsgV} (h : mCheckM m ≠ 0) : encodeM m = (⟨#[]⟩, mCheckM m) := by
 unfold encodeM
 rw [show (mCheckM m != 0) = true by simpa using h]
 rfl
theorem end_rd0 (t : ByteArray) : rdEndM (rd0 t) = if 0 < t.size then 23 else 0 := by
 unfold rdEndM rdLeftM
 rw [err0]
 by_cases h : 0 < t.size
 ·rw [if_pos h]
  show (bif decide ((t.size : Int) > 0) then (23 : Int) else 0) = 23
  rw [decide_eq_true (by omega)]
  rfl
 ·rw [if_neg h]
  show (bif decide ((t.size : Int) > 0) then (23 : Int) else 0) = 0
  rw [decide_eq_false (by omega)]
  rfl
theorem size_nil {t : ByteArray} (h : ¬ 0 < t.size) : t = ⟨#[]⟩ := bytes_ext (by
 have h1 : t.data.toList.length = 0 := by
  show t.size = 0
  omega
 rw [List.length_eq_zero_iff.1 h1])
theorem decode_enc {m : MsgV} (h : mCheckM m = 0) (t : ByteArray) : decodeM (encM m ++ t) = if 0 < t.size then (mz, 23) else (m, 0) := by
 have hm := msg_ok h
 have h1 : rdIntM (newRd (encM m ++ t)) = (m.kind, rd0 (encBody m ++ t)) := by
  show rdIntM (rd0 (encM m ++ t)) = _
  unfold encM
  rw [ByteArray.append_assoc]
  exact int_undo.enc _ _ ⟨by have := hm.kind; omega, by have := hm.kind; omega⟩
 rw [decode_eq, h1]
 dsimp only
 rw [if_neg (by simp [err0]), if_neg (by have := hm.kind; omega), bodyD_eq, (body_undo m.kind).enc m t (body_ok h), end_rd0]
 unfold fin
 by_cases ht : 0 < t.size
 ·rw [if_pos ht, if_pos ht]; rfl
 ·rw [if_neg ht, if_neg ht, if_neg (by simp)]
  dsimp only
  rw [if_neg (by simpa using h)]
theorem decode_dec {s : ByteArray} (h : (decodeM s).2 = 0) : s = encM (decodeM s).1 ∧ mCheckM (decodeM s).1 = 0 := by
 obtain ⟨h1, h2, h3, h4, h5, h6⟩ := dec_spec h
 refine ⟨?_, h6⟩
 obtain ⟨k, t, hs, hk, hr⟩ := int_undo.dec _ h1
 rw [hr] at h4 h5
 dsimp only at h4 h5
 rw [bodyD_eq] at h4 h5
 have h7 : rdErrM (dbody k (rd0 t)).2 = 0 := by
  unfold rdEndM at h5
  cases hL : decide (rdLeftM (dbody k (rd0 t)).2 > 0) with
  | true => rw [hL] at h5; cases h5
  | false => rw [hL] at h5; exact h5
 obtain ⟨m, t2, ht, hm, hr2⟩ := (body_undo k).dec _ h7
 rw [hr2] at h4 h5
 dsimp only at h4 h5
 rw [end_rd0] at h5
 have ht2 : ¬ 0 < t2.size := by
  intro hq
  rw [if_pos hq] at h5
  cases h5
 have hs2 : s = wintM k ++ t := by
  have : (rd0 s).rest = (rd0 (wintM k ++ t)).rest := by
   show (newRd s).rest = _
   rw [hs]
  exact this
 have ht3 : t = encBody m ++ t2 := by
  have : (rd0 t).rest = (rd0 (encBody m ++ t2)).rest := by rw [ht]
  exact this
 rw [h4, hs2, ht3, size_nil ht2, app_nil]
 unfold encM
 rw [hm.1]
end Go.Proofs.Ytnnlaccdendkpaa
