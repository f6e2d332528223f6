/- Plain law, third part: the code point at the head of a text; which text may be; the name at a text's head. -/
import Derived.Test.YtldancekpigkaaaDoorU0
import Derived.Test.YtldancekpigkaaaDoorXCheck
namespace Go.Proofs.YtldancekpigkaaaDoor.U
open Go.RowKit Go.Lib Go.Proofs.YtldancekpigkaaaDoor.X

def nb (l : Bs) (i : Nat) : Nat := (l.getD i 0).toNat
theorem nb_lt (l : Bs) (i : Nat) : nb l i < 256 := (l.getD i 0).toNat_lt
theorem decodeL_eq (l : Bs) : decodeL l = decodeN l.length (nb l 0) (nb l 1) (nb l 2) (nb l 3) := by
  have h := decode_at (B l) 0
  rw [B_size, B_get, B_get, B_get, B_get] at h
  exact h
theorem decode_drop (l : Bs) (p : Nat) : Utf8.decode (B l) p = decodeL (l.drop p) := by
  rw [decodeL_eq, decode_at, B_size, B_get, B_get, B_get, B_get, List.length_drop]
  have e : ∀ i, nb (l.drop p) i = (l.getD (p + i) 0).toNat := fun i => by
    unfold nb
    rw [List.getD_eq_getElem?_getD, List.getD_eq_getElem?_getD, List.getElem?_drop]
  rw [e, e, e, e]
  rfl
theorem decodeGo_eq (l : Bs) (h : l ≠ []) : Lib.decodeGo (B l) = decodeL l := by
  unfold Lib.decodeGo
  have : ¬ (B l).size = 0 := by rw [B_size]; intro e; exact h (List.eq_nil_of_length_eq_zero e)
  rw [if_neg this, decode_drop]
  rfl

/-- The code point at a text's head, and how many bytes it has. -/
def firstL (l : Bs) : Int × Int :=
  if l = [] then (0, 0) else if (decodeL l).1 = 65533 ∧ (decodeL l).2 = 1 then (0, 0) else (((decodeL l).1 : Int), ((decodeL l).2 : Int))
abbrev bad (l : Bs) : Prop := (decodeL l).1 = 65533 ∧ (decodeL l).2 = 1
theorem firstL_nil : firstL [] = (0, 0) := rfl
theorem firstL_bad {l : Bs} (h : bad l) : firstL l = (0, 0) := by
  unfold firstL
  rw [if_pos (show (decodeL l).1 = 65533 ∧ (decodeL l).2 = 1 from h)]
  split <;> rfl
theorem firstL_good {l : Bs} (h0 : l ≠ []) (h : ¬ bad l) : firstL l = (((decodeL l).1 : Int), ((decodeL l).2 : Int)) := by
  unfold firstL
  rw [if_neg h0, if_neg h]
theorem wid_pos (l : Bs) : 1 ≤ (decodeL l).2 := decodeL_width l
theorem wid_le (l : Bs) (h : l ≠ []) : (decodeL l).2 ≤ l.length := decodeL_le l h

/-! ### Which text may be -/
def runesL : Nat → Bs → Bool
  | 0, _ => true
  | f + 1, l => if l = [] then true else charB (decodeL l).1 && runesL f (l.drop (decodeL l).2)
theorem runesOk_eq (l : Bs) : ∀ (f p : Nat), runesOk (B l) f p = runesL f (l.drop p) := by
  intro f
  induction f with
  | zero => intro p; rfl
  | succ f ih =>
    intro p
    unfold runesOk runesL
    rw [B_size, decode_drop]
    by_cases h : p < l.length
    · have : l.drop p ≠ [] := by simp; omega
      rw [if_pos h, if_neg this, ih, List.drop_drop]
    · have : l.drop p = [] := List.drop_eq_nil_of_le (by omega)
      rw [if_neg h, if_pos this]
/-- The document's answer. -/
def checkL : Nat → Bs → Int
  | 0, _ => 0
  | f + 1, l => if l = [] then 0 else if (firstL l).2 = 0 ∨ charB (firstL l).1 = false then 50 else checkL f (l.drop (decodeL l).2)
theorem check_eq : ∀ (f : Nat) (l : Bs), l.length ≤ f → (if validD l && runesL f l then (0 : Int) else 50) = checkL f l := by
  intro f
  induction f with
  | zero =>
    intro l hl
    have : l = [] := List.eq_nil_of_length_eq_zero (by omega)
    subst this
    rfl
  | succ f ih =>
    intro l hl
    unfold runesL checkL
    by_cases h : l = []
    · subst h; rfl
    · rw [if_neg h, if_neg h, validD_step l h]
      by_cases hb : bad l
      · rw [if_pos hb, firstL_bad hb]; simp
      · rw [if_neg hb, firstL_good h hb]
        have hw := wid_pos l
        by_cases hc : charB ((decodeL l).1 : Int) = true
        · have hn : ¬ ((((decodeL l).1 : Int), ((decodeL l).2 : Int)).2 = 0 ∨ charB (((decodeL l).1 : Int), ((decodeL l).2 : Int)).1 = false) := by
            rintro (h1 | h1)
            · simp only at h1; omega
            · simp only [hc] at h1; cases h1
          rw [ite_cond_eq_false _ _ (eq_false hn), ← ih _ (by simp; omega), hc, Bool.true_and]
        · have hc' : charB ((decodeL l).1 : Int) = false := by simpa using hc
          have hp : ((((decodeL l).1 : Int), ((decodeL l).2 : Int)).2 = 0 ∨ charB (((decodeL l).1 : Int), ((decodeL l).2 : Int)).1 = false) := .inr hc'
          rw [ite_cond_eq_true (50 : Int) _ (eq_true hp), hc']
          simp
theorem checkR_eq (l : Bs) : checkR (B l) = checkL l.length l := by
  unfold checkR
  rw [B_data, B_size, runesOk_eq, List.drop_zero, check_eq _ _ (Nat.le_refl _)]

/-! ### The name at a text's head -/
end Go.Proofs.YtldancekpigkaaaDoor.U
