/- Messages: the fields behind the kind, as one reader and one writer. Conditions: none. -/
import Derived.Test.YtnnlaccdendkpaaVRg
namespace Go.Proofs.Ytnnlaccdendkpaa
open Go Go.Av Go.Hh Go.Proofs
section
variable {ρ α β : Type}
def bnd (R1 : ρ → α × ρ) (R2 : α → ρ → β × ρ) (r : ρ) : (α × β) × ρ := (((R1 r).1, (R2 (R1 r).1 (R1 r).2).1), (R2 (R1 r).1 (R1 r).2).2)
def opt (c : Bool) (d : α) (R : ρ → α × ρ) (r : ρ) : α × ρ := bif c then R r else (d, r)
def mapR (f : α → β) (R : ρ → α × ρ) (r : ρ) : β × ρ := (f (R r).1, (R r).2)
def rmany (R : ρ → α × ρ) : Nat → ρ → List α × ρ
 | 0, r => ([], r)
 | n + 1, r => ((R r).1 :: (rmany R n (R r).2).1, (rmany R n (R r).2).2)
def ritem (I : ρ → Int × ρ) (T : ρ → ByteArray × ρ) (V : ρ → Val × ρ) (dev : Int) : ρ → ItemV × ρ :=
 mapR (fun p => ⟨⟨dev, p.1, p.2.1⟩, p.2.2.1, p.2.2.2⟩) (bnd T fun _ => bnd T fun _ => bnd V fun _ => I)
def rlist (I C : ρ → Int × ρ) (T : ρ → ByteArray × ρ) (V : ρ → Val × ρ) (dev : Int) : ρ → List ItemV × ρ :=
 mapR (fun p => p.2) (bnd C fun n => rmany (ritem I T V dev) n.toNat)
def rbody (I C : ρ → Int × ρ) (T D : ρ → ByteArray × ρ) (V : ρ → Val × ρ) (k : Int) : ρ → MsgV × ρ :=
 mapR (fun p => ⟨k, p.1, p.2.1, p.2.2.1, p.2.2.2.1, p.2.2.2.2.1, p.2.2.2.2.2.1, p.2.2.2.2.2.2⟩)
  (bnd I fun d => bnd (opt (hasEpochM k) 0 I) fun _ => bnd I fun _ => bnd (opt (hasItemsM k) [] (rlist I C T V d)) fun _ => bnd (opt (hasNamesM k) ⟨#[]⟩ T) fun _ => bnd (opt (hasNamesM k) ⟨#[]⟩ T) fun _ => opt (hasDataM k) ⟨#[]⟩ D)
end
theorem iter_many {ρ α : Type} {b : Nat → List α × ρ → List α × ρ} {R : ρ → α × ρ} (h : ∀ k l r, b k (l, r) = (l ++ [(R r).1], (R r).2)) : ∀ (n k : Nat) (l : List α) (r : ρ), iterN b k n (l, r) = (l ++ (rmany R n r).1, (rmany R n r).2)
 | 0, k, l, r => by simp [iterN, rmany]
 | n + 1, k, l, r => by
  unfold iterN rmany
  rw [h, iter_many h n]
  simp
abbrev dbody (k : Int) : Rd → MsgV × Rd := rbody rdIntM (fun r => rdCountM r 7) (fun r => rdTextM r 24) (fun r => rdTextM r 512) takeM k
theorem dloop (r : Rd) (k : Int) (n : Nat) (q : Rd) : iterN (bodyDM_B1 r (mk0 k)) 0 n ([], q) = rmany (ritem rdIntM (fun r => rdTextM r 24) takeM (rdIntM r).1) n q := by
 rw [iter_many (R := ritem rdIntM (fun r => rdTextM r 24) takeM (rdIntM r).1)]
 ·simp
 ·intro j l p
  unfold bodyDM_B1
  dsimp only
  rw [show decide ((j : Int) < ((([] : List ItemV).length : Nat) : Int)) = false from decide_eq_false (by simp)]
  have hd : (bodyDM_v1 r (mk0 k)).dev = (rdIntM r).1 := by
   unfold bodyDM_v1
   cases hasEpochM (mk0 k).kind <;> rfl
  rw [hd]
  rfl
theorem bodyD_eq (r : Rd) (k : Int) : bodyDM r (mk0 k) = dbody k r := by
 have hL : ∀ q : Rd, bodyDM_L1 r (mk0 k) ([], q) = iterN (bodyDM_B1 r (mk0 k)) 0 (((decCountM ((decNumM (bodyDM_v2 r (mk0 k)) 0).2) 0).1).toNat) ([], q) := fun q => rfl
 unfold bodyDM bodyDM_v5 bodyDM_v9 bodyDM_v8 bodyDM_v7 bodyDM_v6 bodyDM_v4
 simp only [hL, dloop]
 unfold bodyDM_v2 bodyDM_v1 dbody rbody rlist mapR
 simp only [bnd, opt, decNumM, decCountM, decTextM, decValM]
 cases hasEpochM k <;> cases hasItemsM k <;> cases hasNamesM k <;> cases hasDataM k <;> simp only [cond_true, cond_false]
end Go.Proofs.Ytnnlaccdendkpaa
