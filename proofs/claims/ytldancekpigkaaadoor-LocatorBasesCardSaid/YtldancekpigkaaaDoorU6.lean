/- Plain law, seventh part: which text may be, plain lines, the name at a text's head: what the printed functions come to. -/
import Derived.Test.YtldancekpigkaaaDoorU5
namespace Go.Proofs.YtldancekpigkaaaDoor.U
open Go.RowKit Go.Lib Go.Proofs.YtldancekpigkaaaDoorW.PrintWords Go.Proofs.YtldancekpigkaaaDoor.X Go.Proofs.YtldancekpigkaaaDoor.Pl

theorem extract_tail (l : Bs) (n : Nat) : (B l).extract n (B l).size = B (l.drop n) := by rw [B_extract, B_size, List.take_length]
theorem extract_head (l : Bs) (n : Nat) : (B l).extract 0 n = B (l.take n) := by rw [B_extract, List.drop_zero]
theorem first_ok {l : Bs} (h : (firstL l).2 ≠ 0) : l ≠ [] ∧ ¬ bad l ∧ firstL l = (((decodeL l).1 : Int), ((decodeL l).2 : Int)) := by
  by_cases h0 : l = []
  · subst h0; exact absurd rfl h
  · by_cases hb : bad l
    · rw [firstL_bad hb] at h; exact absurd rfl h
    · exact ⟨h0, hb, firstL_good h0 hb⟩
theorem first_zero {l : Bs} (h0 : l ≠ []) (h : (firstL l).2 = 0) : bad l := by
  by_cases hb : bad l
  · exact hb
  · rw [firstL_good h0 hb] at h
    have := wid_pos l
    simp only at h
    omega
theorem decodeL_lt (l : Bs) : (decodeL l).1 < 4611686018427387904 := by
  rw [decodeL_eq]
  have l0 := nb_lt l 0; have l1 := nb_lt l 1; have l2 := nb_lt l 2; have l3 := nb_lt l 3
  unfold decodeN
  split
  · simp only; omega
  · split
    · split <;> simp only <;> omega
    · split
      · split <;> simp only <;> omega
      · split
        · split <;> simp only <;> omega
        · simp only; omega

/-! ### Which text may be -/
theorem rcheck_l0 : ∀ (d : Nat) (l : Bs), l.length ≤ d → Ev (fun k => broadsheetref05_Check.l0 k (B l)) (checkL d l) := by
  intro d
  induction d with
  | zero =>
    intro l hl
    have : l = [] := List.eq_nil_of_length_eq_zero (by omega)
    subst this
    refine Ev.step (fun k => (show broadsheetref05_Check.l0 (k + 1) (B []) = _ from by rw [broadsheetref05_Check.l0])) ?_
    simp only [if_neg (show ¬ ((B []).size : Int) > 0 by decide)]
    exact Ev.now _
  | succ d ih =>
    intro l hl
    refine Ev.step (fun k => (show broadsheetref05_Check.l0 (k + 1) (B l) = _ from by rw [broadsheetref05_Check.l0])) ?_
    by_cases h0 : l = []
    · subst h0
      simp only [if_neg (show ¬ ((B []).size : Int) > 0 by decide)]
      exact Ev.now _
    · have hp : 0 < l.length := List.length_pos_iff.2 h0
      unfold checkL
      simp only [if_pos (show ((B l).size : Int) > 0 by rw [B_size]; omega), if_neg h0]
      refine Ev.bind (first_ev l) ?_
      by_cases hz : (firstL l).2 = 0
      · simp only [if_pos hz, if_pos (show (firstL l).2 = 0 ∨ charB (firstL l).1 = false from .inl hz)]
        exact Ev.now _
      · obtain ⟨_, hb, e⟩ := first_ok hz
        have hw := wid_pos l
        have hl2 := wid_le l h0
        simp only [if_neg hz]
        refine Ev.bind (rchar_ev _) ?_
        by_cases hc : charB (firstL l).1 = true
        · simp only [if_pos hc, if_neg (show ¬ ((firstL l).2 = 0 ∨ charB (firstL l).1 = false) from fun h => h.elim hz (fun h => by rw [hc] at h; cases h))]
          rw [e]
          simp only [if_pos (show (0 : Int) ≤ ((decodeL l).2 : Int) by omega), if_pos (show ((decodeL l).2 : Int) ≤ ((B l).size : Int) by rw [B_size]; omega), Int.toNat_natCast, extract_tail]
          exact ih _ (by simp; omega)
        · have hc' : charB (firstL l).1 = false := by simpa using hc
          simp only [if_neg hc, if_pos (show (firstL l).2 = 0 ∨ charB (firstL l).1 = false from .inr hc')]
          exact Ev.now _
theorem rcheck_ev (l : Bs) : Ev (fun k => broadsheetref05_Check.f k (B l)) (checkL l.length l) := by
  unfold broadsheetref05_Check.f
  exact rcheck_l0 _ l (Nat.le_refl _)
theorem gcheck (l : Bs) (h : l.length ≤ 9223372036854775807) : glyph_Check.f (B l) = some (checkL l.length l) := by
  unfold glyph_Check.f
  rw [B_size, if_pos h, checkR_eq]

theorem val_ne (c d : UInt8) (h : c ≠ d) : ¬ ((c.toNat : Nat) : Int) = ((d.toNat : Nat) : Int) := fun hh => h (UInt8.toNat_inj.1 (by omega))
theorem bt_val (l : Bs) (i : Nat) (h : i < l.length) : bt (B l) (i : Int) = (l[i].toNat : Int) := B_bt l i h
end Go.Proofs.YtldancekpigkaaaDoor.U
