/- Plain law, third part: the code point at the head of a text; which text may be; the name at a text's head. -/
import Derived.Test.YtidjihhklmfaiaaDoorU1
import Derived.Test.YtidjihhklmfaiaaDoorXCheck
namespace Go.Proofs.YtidjihhklmfaiaaDoor.U
open Go.RowKit Go.Lib Go.Proofs.YtidjihhklmfaiaaDoor.X

def nb (l : Bs) (i : Nat) : Nat := (l.getD i 0).toNat
theorem nb_lt (l : Bs) (i : Nat) : nb l i < 256 := (l.getD i 0).toNat_lt
theorem decodeL_eq (l : Bs) : decodeL l = decodeN l.length (nb l 0) (nb l 1) (nb l 2) (nb l 3) := by
  have h := decode_at (B l) 0
  rw [B_size, B_get, B_get, B_get, B_get] at h
  exact h
theorem decode_drop (l : Bs) (p : Nat) : Utf8.decode (B l) p = decodeL (l.drop p) := by
  rw [decodeL_eq, decode_at, B_size, B_get, B_get, B_get, B_get, List.length_drop]
  have e : ∀ i, nb (l.drop p) i = (l.getD (p + i) 0).toNat := fun i => by
    unfold nb
    rw [List.getD_eq_getElem?_getD, List.getD_eq_getElem?_getD, List.getElem?_drop]
  rw [e, e, e, e]
  rfl
theorem decodeGo_eq (l : Bs) (h : l ≠ []) : Lib.decodeGo (B l) = decodeL l := by
  unfold Lib.decodeGo
  have : ¬ (B l).size = 0 := by rw [B_size]; intro e; exact h (List.eq_nil_of_length_eq_zero e)
  rw [if_neg this, decode_drop]
  rfl

/-- The code point at a text's head, and how many bytes it has. -/
def firstL (l : Bs) : Int × Int :=
  if l = [] then (0, 0) else if (decodeL l).1 = 65533 ∧ (decodeL l).2 = 1 then (0, 0) else (((decodeL l).1 : Int), ((decodeL l).2 : Int))
abbrev bad (l : Bs) : Prop := (decodeL l).1 = 65533 ∧ (decodeL l).2 = 1
theorem firstL_nil : firstL [] = (0, 0) := rfl
theorem firstL_bad {l : Bs} (h : bad l) : firstL l = (0, 0) := by
  unfold firstL
  rw [if_pos (show (decodeL l).1 = 65533 ∧ (decodeL l).2 = 1 from h)]
  split <;> rfl
theorem firstL_good {l : Bs} (h0 : l ≠ []) (h : ¬ bad l) : firstL l = (((decodeL l).1 : Int), ((decodeL l).2 : Int)) := by
  unfold firstL
  rw [if_neg h0, if_neg h]
theorem wid_pos (l : Bs) : 1 ≤ (decodeL l).2 := decodeL_width l
theorem wid_le (l : Bs) (h : l ≠ []) : (decodeL l).2 ≤ l.length := decodeL_le l h

/-! ### Which text may be -/
def runesL : Nat → Bs → Bool
  | 0, _ => true
  | f + 1, l => if l = [] then true else charB (decodeL l).1 && runesL f (l.drop (decodeL l).2)
theorem runesOk_eq (l : Bs) : ∀ (f p : Nat), runesOk (B l) f p = runesL f (l.drop p) := by
  intro f
  induction f with
  | zero => intro p; rfl
  | succ f ih =>
    intro p
    unfold runesOk runesL
    rw [B_size, decode_drop]
    by_cases h : p < l.length
    · have : l.drop p ≠ [] := by simp; omega
      rw [if_pos h, if_neg this, ih, List.drop_drop]
    · have : l.drop p = [] := List.drop_eq_nil_of_le (by omega)
      rw [if_neg h, if_pos this]
/-- The document's answer. -/
def checkL : Nat → Bs → Int
  | 0, _ => 0
  | f + 1, l => if l = [] then 0 else if (firstL l).2 = 0 ∨ charB (firstL l).1 = false then 50 else checkL f (l.drop (decodeL l).2)
theorem check_eq : ∀ (f : Nat) (l : Bs), l.length ≤ f → (if validD l && runesL f l then (0 : Int) else 50) = checkL f l := by
  intro f
  induction f with
  | zero =>
    intro l hl
    have : l = [] := List.eq_nil_of_length_eq_zero (by omega)
    subst this
    rfl
  | succ f ih =>
    intro l hl
    unfold runesL checkL
    by_cases h : l = []
    · subst h; rfl
    · rw [if_neg h, if_neg h, validD_step l h]
      by_cases hb : bad l
      · rw [if_pos hb, firstL_bad hb]; simp
      · rw [if_neg hb, firstL_good h hb]
        have hw := wid_pos l
        by_cases hc : charB ((decodeL l).1 : Int) = true
        · have hn : ¬ ((((decodeL l).1 : Int), ((decodeL l).2 : Int)).2 = 0 ∨ charB (((decodeL l).1 : Int), ((decodeL l).2 : Int)).1 = false) := by
            rintro (h1 | h1)
            · simp only at h1; omega
            · simp only [hc] at h1; cases h1
          rw [ite_cond_eq_false _ _ (eq_false hn), ← ih _ (by simp; omega), hc, Bool.true_and]
        · have hc' : charB ((decodeL l).1 : Int) = false := by simpa using hc
          have hp : ((((decodeL l).1 : Int), ((decodeL l).2 : Int)).2 = 0 ∨ charB (((decodeL l).1 : Int), ((decodeL l).2 : Int)).1 = false) := .inr hc'
          rw [ite_cond_eq_true (50 : Int) _ (eq_true hp), hc']
          simp
theorem checkR_eq (l : Bs) : checkR (B l) = checkL l.length l := by
  unfold checkR
  rw [B_data, B_size, runesOk_eq, List.drop_zero, check_eq _ _ (Nat.le_refl _)]

/-! ### The name at a text's head -/
/-- Does a name go on with what stands here (or begin)? -/
def goesB (first : Bool) (l : Bs) : Bool := decide ((firstL l).2 ≠ 0) && partB (firstL l).1 && (!first || startB (firstL l).1)
def nameN : Nat → Bool → Bs → Nat
  | 0, _, _ => 0
  | f + 1, first, l => if l = [] then 0 else if goesB first l then (decodeL l).2 + nameN f false (l.drop (decodeL l).2) else 0
def nameL (l : Bs) : Nat := nameN l.length true l
theorem nameN_fuel : ∀ (f g : Nat) (b : Bool) (l : Bs), l.length ≤ f → l.length ≤ g → nameN f b l = nameN g b l := by
  intro f
  induction f with
  | zero =>
    intro g b l hf _
    have : l = [] := List.eq_nil_of_length_eq_zero (by omega)
    subst this
    cases g <;> simp [nameN]
  | succ f ih =>
    intro g b l hf hg
    cases g with
    | zero =>
      have : l = [] := List.eq_nil_of_length_eq_zero (by omega)
      subst this
      simp [nameN]
    | succ g =>
      unfold nameN
      by_cases h : l = []
      · rw [if_pos h, if_pos h]
      · have := wid_pos l
        rw [if_neg h, if_neg h, ih g false _ (by simp; omega) (by simp; omega)]
theorem nameN_le : ∀ (f : Nat) (b : Bool) (l : Bs), nameN f b l ≤ l.length := by
  intro f
  induction f with
  | zero => intro b l; simp [nameN]
  | succ f ih =>
    intro b l
    unfold nameN
    split
    · omega
    · rename_i h
      split
      · have h1 := wid_le l h
        have h2 := ih false (l.drop (decodeL l).2)
        simp at h2
        omega
      · omega
/-- Behind a name nothing goes on. -/
theorem nameN_stop : ∀ (f : Nat) (b : Bool) (l : Bs), l.length ≤ f → nameN f b l ≠ 0 ∨ b = false → l.drop (nameN f b l) = [] ∨ goesB false (l.drop (nameN f b l)) = false := by
  intro f
  induction f with
  | zero =>
    intro b l hl _
    have : l = [] := List.eq_nil_of_length_eq_zero (by omega)
    subst this
    simp
  | succ f ih =>
    intro b l hl hb
    by_cases h : l = []
    · subst h; simp
    · have hw := wid_pos l
      by_cases hg : goesB b l = true
      · have e : nameN (f + 1) b l = (decodeL l).2 + nameN f false (l.drop (decodeL l).2) := by
          conv => lhs; unfold nameN
          rw [if_neg h, if_pos hg]
        rw [e, ← List.drop_drop]
        exact ih false _ (by simp; omega) (.inr rfl)
      · have e : nameN (f + 1) b l = 0 := by
          conv => lhs; unfold nameN
          rw [if_neg h, if_neg hg]
        rcases hb with hb | hb
        · exact absurd e hb
        · rw [e]
          subst hb
          exact .inr (by simpa using hg)
/-- A code point at the head of a part that holds it whole. -/
theorem decodeL_take (l : Bs) (m : Nat) (hm : (decodeL l).2 ≤ m) (hb : ¬ bad l) (h0 : l ≠ []) : decodeL (l.take m) = decodeL l := by
  have hw := wid_pos l
  have hl := wid_le l h0
  have e : ∀ i, i < m → nb (l.take m) i = nb l i := fun i hi => by
    unfold nb
    rw [List.getD_eq_getElem?_getD, List.getD_eq_getElem?_getD, List.getElem?_take_of_lt hi]
  have e0 := e 0 (by omega)
  have l1 := nb_lt l 1; have l2 := nb_lt l 2; have l3 := nb_lt l 3
  have hlen : (l.take m).length = min m l.length := List.length_take
  unfold bad at hb
  rw [decodeL_eq] at hb hm hl ⊢
  rw [decodeL_eq, e0, hlen]
  have c1 : 1 < m → nb (l.take m) 1 = nb l 1 := e 1
  have c2 : 2 < m → nb (l.take m) 2 = nb l 2 := e 2
  have c3 : 3 < m → nb (l.take m) 3 = nb l 3 := e 3
  generalize nb (l.take m) 1 = d1 at *
  generalize nb (l.take m) 2 = d2 at *
  generalize nb (l.take m) 3 = d3 at *
  generalize nb l 0 = b0 at *
  generalize nb l 1 = b1 at *
  generalize nb l 2 = b2 at *
  generalize nb l 3 = b3 at *
  generalize l.length = n at *
  clear e e0 hlen
  unfold decodeN at hm hb hl ⊢
  by_cases h1 : b0 < 128
  · simp only [if_pos h1]
  · simp only [if_neg h1] at hm hb hl ⊢
    by_cases h2 : b0 / 32 = 6 ∧ (1 < n ∧ b1 / 64 = 2)
    · simp only [if_pos h2] at hm hb hl ⊢
      by_cases h3 : b0 % 32 * 64 + b1 % 64 ≥ 128
      · simp only [if_pos h3] at hm hb hl ⊢
        have := c1 (by omega)
        subst this
        rw [if_pos ⟨h2.1, by omega, h2.2.2⟩, if_pos h3]
      · simp [h3] at hb
    · simp only [if_neg h2] at hm hb hl ⊢
      by_cases h4 : b0 / 16 = 14 ∧ (1 < n ∧ b1 / 64 = 2) ∧ (2 < n ∧ b2 / 64 = 2)
      · simp only [if_pos h4] at hm hb hl ⊢
        split at hm
        · rename_i h5
          have := c1 (by omega)
          have := c2 (by omega)
          subst d1 d2
          rw [if_neg (by omega), if_pos ⟨h4.1, ⟨by omega, h4.2.1.2⟩, by omega, h4.2.2.2⟩]
        · rename_i h5; simp [h5] at hb
      · simp only [if_neg h4] at hm hb hl ⊢
        by_cases h6 : b0 / 8 = 30 ∧ (1 < n ∧ b1 / 64 = 2) ∧ (2 < n ∧ b2 / 64 = 2) ∧ (3 < n ∧ b3 / 64 = 2)
        · simp only [if_pos h6] at hm hb hl ⊢
          split at hm
          · rename_i h5
            have := c1 (by omega)
            have := c2 (by omega)
            have := c3 (by omega)
            subst d1 d2 d3
            rw [if_neg (by omega), if_neg (by omega), if_pos ⟨h6.1, ⟨by omega, h6.2.1.2⟩, ⟨by omega, h6.2.2.1.2⟩, by omega, h6.2.2.2.2⟩]
          · rename_i h5; simp [h5] at hb
        · simp [if_neg h6] at hb
end Go.Proofs.YtidjihhklmfaiaaDoor.U
