/- Messages: the fields behind the kind, as one reader and one writer. Conditions: none. -/
import Derived.Test.YtnnlaccdendkpaaURg
namespace Go.Proofs.Ytnnlaccdendkpaa
open Go Go.Av Go.Hh Go.Proofs
def encItem (x : ItemV) : ByteArray := wtextM x.key.cluster ++ (wtextM x.key.attr ++ (putM x.value ++ wintM x.version))
def encItems : List ItemV → ByteArray
 | [] => ⟨#[]⟩
 | x :: l => encItem x ++ encItems l
def encBody (m : MsgV) : ByteArray :=
 wintM m.dev ++ ((bif hasEpochM m.kind then wintM m.epoch else ⟨#[]⟩) ++ (wintM m.version ++ ((bif hasItemsM m.kind then wintM (m.items.length : Int) ++ encItems m.items else ⟨#[]⟩) ++
  ((bif hasNamesM m.kind then wtextM m.cluster else ⟨#[]⟩) ++ ((bif hasNamesM m.kind then wtextM m.name else ⟨#[]⟩) ++ (bif hasDataM m.kind then wtextM m.data else ⟨#[]⟩))))))
theorem app_nil (a : ByteArray) : a ++ (⟨#[]⟩ : ByteArray) = a := ByteArray.append_empty
theorem nil_app (a : ByteArray) : (⟨#[]⟩ : ByteArray) ++ a = a := ByteArray.empty_append
theorem eloop (b : ByteArray) (m : MsgV) : ∀ (n k : Nat) (l : List ItemV) (s : ByteArray), k + n = m.items.length → (iterN (bodyEM_B1 b m) k n (l, s)).2 = s ++ encItems (m.items.drop k)
 | 0, k, l, s, h => by
  rw [List.drop_of_length_le (by omega)]
  unfold iterN encItems
  rw [app_nil]
 | n + 1, k, l, s, h => by
  obtain ⟨x, hx⟩ := getEx (l := m.items) (j := k) (by omega)
  have hd : m.items.drop k = x :: m.items.drop (k + 1) := by
   have hlt : k < m.items.length := by omega
   rw [List.drop_eq_getElem_cons hlt]
   congr 1
   rw [List.getElem?_eq_getElem hlt] at hx
   exact Option.some.inj hx
  unfold iterN bodyEM_B1
  rw [hx]
  dsimp only
  rw [decide_eq_true (show (k : Int) < (m.items.length : Int) by omega), cond_true]
  have := fun l s => eloop b m n (k + 1) l s (by omega)
  unfold bodyEM_B1 at this
  rw [this, hd]
  simp only [encNumM, encTextM, encValM, encItems, encItem, ByteArray.append_assoc]
theorem bodyE_eq (b : ByteArray) (m : MsgV) : (bodyEM b m).2 = b ++ encBody m := by
 have hL : ∀ s : ByteArray, (bodyEM_L1 b m ([], s)).2 = s ++ encItems m.items := fun s => by
  have := eloop b m m.items.length 0 [] s (by omega)
  rw [List.drop_zero] at this
  exact this
 unfold bodyEM bodyEM_v5 bodyEM_v9 bodyEM_v4 bodyEM_v7
 simp only [hL]
 unfold bodyEM_v2 encBody
 cases hasEpochM m.kind <;> cases hasItemsM m.kind <;> cases hasNamesM m.kind <;> cases hasDataM m.kind <;> simp only [cond_true, cond_false, encNumM, encTextM, nil_app, app_nil, ByteArray.append_assoc]
end Go.Proofs.Ytnnlaccdendkpaa
