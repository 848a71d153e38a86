/- Messages: the fields behind the kind, as one reader and one writer. Conditions: none. -/
import Derived.Test.YtnnlaccdendkpaaPRg
namespace Go.Proofs.Ytnnlaccdendkpaa
open Go Go.Av Go.Hh Go.Proofs
section
variable {ρ α β : Type}
def bnd (R1 : ρ → α × ρ) (R2 : α → ρ → β × ρ) (r : ρ) : (α × β) × ρ := (((R1 r).1, (R2 (R1 r).1 (R1 r).2).1), (R2 (R1 r).1 (R1 r).2).2)
def opt (c : Bool) (d : α) (R : ρ → α × ρ) (r : ρ) : α × ρ := bif c then R r else (d, r)
def mapR (f : α → β) (R : ρ → α × ρ) (r : ρ) : β × ρ := (f (R r).1, (R r).2)
def rmany (R : ρ → α × ρ) : Nat → ρ → List α × ρ
 | 0, r => ([], r)
 | n + 1, r => ((R r).1 :: (rmany R n (R r).2).1, (rmany R n (R r).2).2)
def ritem (I : ρ → Int × ρ) (T : ρ → ByteArray × ρ) (V : ρ → Val × ρ) (dev : Int) : ρ → ItemV × ρ :=
 mapR (fun p => ⟨⟨dev, p.1, p.2.1⟩, p.2.2.1, p.2.2.2⟩) (bnd T fun _ => bnd T fun _ => bnd V fun _ => I)
def rlist (I C : ρ → Int × ρ) (T : ρ → ByteArray × ρ) (V : ρ → Val × ρ) (dev : Int) : ρ → List ItemV × ρ :=
 mapR (fun p => p.2) (bnd C fun n => rmany (ritem I T V dev) n.toNat)
def rbody (I C : ρ → Int × ρ) (T D : ρ → ByteArray × ρ) (V : ρ → Val × ρ) (k : Int) : ρ → MsgV × ρ :=
 mapR (fun p => ⟨k, p.1, p.2.1, p.2.2.1, p.2.2.2.1, p.2.2.2.2.1, p.2.2.2.2.2.1, p.2.2.2.2.2.2⟩)
  (bnd I fun d => bnd (opt (hasEpochM k) 0 I) fun _ => bnd I fun _ => bnd (opt (hasItemsM k) [] (rlist I C T V d)) fun _ => bnd (opt (hasNamesM k) ⟨#[]⟩ T) fun _ => bnd (opt (hasNamesM k) ⟨#[]⟩ T) fun _ => opt (hasDataM k) ⟨#[]⟩ D)
end
theorem iter_many {ρ α : Type} {b : Nat → List α × ρ → List α × ρ} {R : ρ → α × ρ} (h : ∀ k l r, b k (l, r) = (l ++ [(R r).1], (R r).2)) : ∀ (n k : Nat) (l : List α) (r : ρ), iterN b k n (l, r) = (l ++ (rmany R n r).1, (rmany R n r).2)
 | 0, k, l, r => by simp [iterN, rmany]
 | n + 1, k, l, r => by
  unfold iterN rmany
  rw [h, iter_many h n]
  simp
abbrev dbody (k : Int) : Rd → MsgV × Rd := rbody rdIntM (fun r => rdCountM r 7) (fun r => rdTextM r 24) (fun r => rdTextM r 512) takeM k
theorem dloop (r : Rd) (k : Int) (n : Nat) (q : Rd) : iterN (bodyDM_B1 r (mk0 k)) 0 n ([], q) = rmany (ritem rdIntM (fun r => rdTextM r 24) takeM (rdIntM r).1) n q := by
 rw [iter_many (R := ritem rdIntM (fun r => rdTextM r 24) takeM (rdIntM r).1)]
 ·simp
 ·intro j l p
  unfold bodyDM_B1
  dsimp only
  rw [show decide ((j : Int) < ((([] : List ItemV).length : Nat) : Int)) = false from decide_eq_false (by simp)]
  have hd : (bodyDM_v1 r (mk0 k)).dev = (rdIntM r).1 := by
   unfold bodyDM_v1
   cases hasEpochM (mk0 k).kind <;> rfl
  rw [hd]
  rfl
theorem bodyD_eq (r : Rd) (k : Int) : bodyDM r (mk0 k) = dbody k r := by
 have hL : ∀ q : Rd, bodyDM_L1 r (mk0 k) ([], q) = iterN (bodyDM_B1 r (mk0 k)) 0 (((decCountM ((decNumM (bodyDM_v2 r (mk0 k)) 0).2) 0).1).toNat) ([], q) := fun q => rfl
 unfold bodyDM bodyDM_v5 bodyDM_v9 bodyDM_v8 bodyDM_v7 bodyDM_v6 bodyDM_v4
 simp only [hL, dloop]
 unfold bodyDM_v2 bodyDM_v1 dbody rbody rlist mapR
 simp only [bnd, opt, decNumM, decCountM, decTextM, decValM]
 cases hasEpochM k <;> cases hasItemsM k <;> cases hasNamesM k <;> cases hasDataM k <;> simp only [cond_true, cond_false]
def encItem (x : ItemV) : ByteArray := wtextM x.key.cluster ++ (wtextM x.key.attr ++ (putM x.value ++ wintM x.version))
def encItems : List ItemV → ByteArray
 | [] => ⟨#[]⟩
 | x :: l => encItem x ++ encItems l
def encBody (m : MsgV) : ByteArray :=
 wintM m.dev ++ ((bif hasEpochM m.kind then wintM m.epoch else ⟨#[]⟩) ++ (wintM m.version ++ ((bif hasItemsM m.kind then wintM (m.items.length : Int) ++ encItems m.items else ⟨#[]⟩) ++
  ((bif hasNamesM m.kind then wtextM m.cluster else ⟨#[]⟩) ++ ((bif hasNamesM m.kind then wtextM m.name else ⟨#[]⟩) ++ (bif hasDataM m.kind then wtextM m.data else ⟨#[]⟩))))))
theorem app_nil (a : ByteArray) : a ++ (⟨#[]⟩ : ByteArray) = a := ByteArray.append_empty
theorem nil_app (a : ByteArray) : (⟨#[]⟩ : ByteArray) ++ a = a := ByteArray.empty_append
theorem eloop (b : ByteArray) (m : MsgV) : ∀ (n k : Nat) (l : List ItemV) (s : ByteArray), k + n = m.items.length → (iterN (bodyEM_B1 b m) k n (l, s)).2 = s ++ encItems (m.items.drop k)
 | 0, k, l, s, h => by
  rw [List.drop_of_length_le (by omega)]
  unfold iterN encItems
  rw [app_nil]
 | n + 1, k, l, s, h => by
  obtain ⟨x, hx⟩ := getEx (l := m.items) (j := k) (by omega)
  have hd : m.items.drop k = x :: m.items.drop (k + 1) := by
   have hlt : k < m.items.length := by omega
   rw [List.drop_eq_getElem_cons hlt]
   congr 1
   rw [List.getElem?_eq_getElem hlt] at hx
   exact Option.some.inj hx
  unfold iterN bodyEM_B1
  rw [hx]
  dsimp only
  rw [decide_eq_true (show (k : Int) < (m.items.length : Int) by omega), cond_true]
  have := fun l s => eloop b m n (k + 1) l s (by omega)
  unfold bodyEM_B1 at this
  rw [this, hd]
  simp only [encNumM, encTextM, encValM, encItems, encItem, ByteArray.append_assoc]
theorem bodyE_eq (b : ByteArray) (m : MsgV) : (bodyEM b m).2 = b ++ encBody m := by
 have hL : ∀ s : ByteArray, (bodyEM_L1 b m ([], s)).2 = s ++ encItems m.items := fun s => by
  have := eloop b m m.items.length 0 [] s (by omega)
  rw [List.drop_zero] at this
  exact this
 unfold bodyEM bodyEM_v5 bodyEM_v9 bodyEM_v4 bodyEM_v7
 simp only [hL]
 unfold bodyEM_v2 encBody
 cases hasEpochM m.kind <;> cases hasItemsM m.kind <;> cases hasNamesM m.kind <;> cases hasDataM m.kind <;> simp only [cond_true, cond_false, encNumM, encTextM, nil_app, app_nil, ByteArray.append_assoc]
end Go.Proofs.Ytnnlaccdendkpaa
