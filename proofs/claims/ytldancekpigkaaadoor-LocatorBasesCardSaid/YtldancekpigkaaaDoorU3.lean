/- Plain law, fourth part: what the printed functions of code points come to. -/
import Derived.Test.YtldancekpigkaaaDoorU2
import Derived.Test.YtldancekpigkaaaDoorPl7
namespace Go.Proofs.YtldancekpigkaaaDoor.U
open Go.RowKit Go.Lib Go.Proofs.YtldancekpigkaaaDoorW.PrintWords Go.Proofs.YtldancekpigkaaaDoor.X Go.Proofs.YtldancekpigkaaaDoor.Pl

def inP (c : Int) : List Int → Bool
  | a :: b :: r => (decide (a ≤ c) && decide (c ≤ b)) || inP c r
  | _ => false
theorem rd_nat (l : List Int) (i : Nat) : rd l (i : Int) = l.getD i 0 := by simp [rd]
theorem inP_drop (c : Int) (l : List Int) (i : Nat) (h : i + 1 < l.length) : inP c (l.drop i) = ((decide (l.getD i 0 ≤ c) && decide (c ≤ l.getD (i + 1) 0)) || inP c (l.drop (i + 2))) := by
  rw [List.drop_eq_getElem_cons (by omega), List.drop_eq_getElem_cons h, List.getD_eq_getElem?_getD, List.getD_eq_getElem?_getD, List.getElem?_eq_getElem h, List.getElem?_eq_getElem (by omega)]
  rfl
theorem inP_end (c : Int) (l : List Int) (i : Nat) (h : ¬ i + 1 < l.length) : inP c (l.drop i) = false := by
  have : (l.drop i).length ≤ 1 := by simp; omega
  match hl : l.drop i, this with
  | [], _ => rfl
  | [a], _ => rfl
theorem in_ev (c : Int) (l : List Int) (hl : l.length ≤ 1000) : ∀ (d i : Nat), l.length - i ≤ d → i ≤ l.length + 2 → Ev (fun k => broadsheetref05_in.l0 k c l (i : Int)) (inP c (l.drop i)) := by
  intro d
  induction d with
  | zero =>
    intro i hd hi
    refine Ev.step (fun k => (show broadsheetref05_in.l0 (k + 1) c l i = _ from by rw [broadsheetref05_in.l0])) ?_
    have e1 : wrap64 ((i : Int) + 1) = (i : Int) + 1 := w64 (by omega) (by omega)
    simp only [e1, if_neg (show ¬ (i : Int) + 1 < (l.length : Int) by omega)]
    rw [inP_end _ _ _ (by omega)]
    exact Ev.now _
  | succ d ih =>
    intro i hd hi
    refine Ev.step (fun k => (show broadsheetref05_in.l0 (k + 1) c l i = _ from by rw [broadsheetref05_in.l0])) ?_
    have e1 : wrap64 ((i : Int) + 1) = ((i + 1 : Nat) : Int) := by rw [w64 (by omega) (by omega)]; rfl
    have e2 : wrap64 ((i : Int) + 2) = ((i + 2 : Nat) : Int) := by rw [w64 (by omega) (by omega)]; rfl
    by_cases h : i + 1 < l.length
    · have q := ih (i + 2) (by omega) (by omega)
      simp only [e1, e2, rd_nat, if_pos (show ((i + 1 : Nat) : Int) < (l.length : Int) by omega), if_pos (show (0 : Int) ≤ (i : Int) by omega), if_pos (show (i : Int) < (l.length : Int) by omega), if_pos (show (0 : Int) ≤ ((i + 1 : Nat) : Int) by omega)]
      rw [inP_drop c l i h]
      by_cases h1 : c ≥ l.getD i 0
      · by_cases h2 : c ≤ l.getD (i + 1) 0
        · simp only [if_pos h1, if_pos h2, decide_eq_true (show l.getD i 0 ≤ c from h1), decide_eq_true h2, Bool.true_and, Bool.true_or]
          exact Ev.now _
        · simp only [if_pos h1, if_neg h2, decide_eq_false h2, Bool.and_false, Bool.false_or]
          exact q
      · simp only [if_neg h1, decide_eq_false (show ¬ l.getD i 0 ≤ c from h1), Bool.false_and, Bool.false_or]
        exact q
    · simp only [e1, if_neg (show ¬ ((i + 1 : Nat) : Int) < (l.length : Int) by omega)]
      rw [inP_end _ _ _ h]
      exact Ev.now _
theorem in_f (c : Int) (l : List Int) (hl : l.length ≤ 1000) : Ev (fun k => broadsheetref05_in.f k c l) (inP c l) := by
  have := in_ev c l hl l.length 0 (by omega) (by omega)
  simpa [broadsheetref05_in.f] using this

theorem rchar_ev (c : Int) : Ev (fun k => broadsheetref05_Char.f k c) (charB c) := by
  have h : inP c [9, 10, 13, 13, 32, 55295, 57344, 65533, 65536, 1114111] = charB c := by simp [inP, charB, amongB, charL, inR]
  rw [← h]
  unfold broadsheetref05_Char.f
  exact Ev.bind (in_f c _ (by decide)) (Ev.now _)
end Go.Proofs.YtldancekpigkaaaDoor.U
