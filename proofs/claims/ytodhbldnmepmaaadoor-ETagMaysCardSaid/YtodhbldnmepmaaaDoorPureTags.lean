/- Plain laws: the tags of any list, any tag's text, and what may be done upon any conditions, are the document's (ETagLists, ETagMays). -/
import Derived.Test.YtodhbldnmepmaaaDoorT4
import Derived.Test.YtodhbldnmepmaaaDoorPe6
import Derived.Test.YtodhbldnmepmaaaDoorPe9
namespace Go.Proofs.YtodhbldnmepmaaaDoor.Pure
open Go.RowKit Go.Lib Go.Proofs.YtodhbldnmepmaaaDoorW.PrintWords Go.Proofs.YtodhbldnmepmaaaDoor.X Go.Proofs.YtodhbldnmepmaaaDoor.Pe Go.Proofs.YtodhbldnmepmaaaDoor.U Go.Proofs.YtodhbldnmepmaaaDoor.T
set_option linter.unusedSimpArgs false

theorem ETagLists (a : ByteArray) (t : S24) : ∃ k, broadsheetlaw17_ETagLists.f k a t.f0 t.f1 = some true := by
  obtain ⟨s, rfl⟩ := B_eta a
  obtain ⟨w, x⟩ := t
  obtain ⟨v, rfl⟩ := B_eta x
  refine Ev.rounds (g := fun k => broadsheetlaw17_ETagLists.f k (B s) w (B v)) ?_
  unfold broadsheetlaw17_ETagLists.f
  have out : Ev (fun k => broadsheetlaw17_ETagLists.j0 k (B s) true w (B v)) true := by
    refine Ev.step (fun k => (show broadsheetlaw17_ETagLists.j0 (k + 1) (B s) true w (B v) = _ from by rw [broadsheetlaw17_ETagLists.j0])) ?_
    simp only [if_true]
    exact Ev.bind awake17 (Ev.now _)
  by_cases hs : s.length > 1000
  · simp only [if_pos (show ((B s).size : Int) > 1000 by rw [B_size]; omega)]
    exact out
  · simp only [if_neg (show ¬ ((B s).size : Int) > 1000 by rw [B_size]; omega)]
    by_cases hv : v.length > 1000
    · simp only [decide_eq_true (show ((B v).size : Int) > 1000 by rw [B_size]; omega)]
      exact out
    · simp only [decide_eq_false (show ¬ ((B v).size : Int) > 1000 by rw [B_size]; omega)]
      refine Ev.step (fun k => (show broadsheetlaw17_ETagLists.j0 (k + 1) (B s) false w (B v) = _ from by rw [broadsheetlaw17_ETagLists.j0])) ?_
      have hl := listV_len s
      simp only [Bool.false_eq_true, if_false, glist s (by omega), gprint w v (by omega), Option.bind_some]
      refine Ev.bind (rlist_ev s (by omega)) ?_
      refine Ev.bind (rprint_ev w v (by omega)) ?_
      refine Ev.bind awake17 ?_
      simp only [if_true]
      refine Ev.bind (same_ev _ (by omega)) ?_
      simp only [if_true, beq_self_eq_true]
      exact Ev.now _
theorem ETagMays (l : List S24) (star : Bool) (t : S24) (a b : ByteArray) (n : Int) : ∃ k, broadsheetlaw17_ETagMays.f k l star t.f0 t.f1 a b n = some true := by
  obtain ⟨s, rfl⟩ := B_eta a
  obtain ⟨u, rfl⟩ := B_eta b
  obtain ⟨w, v⟩ := t
  refine Ev.rounds (g := fun k => broadsheetlaw17_ETagMays.f k l star w v (B s) (B u) n) ?_
  unfold broadsheetlaw17_ETagMays.f
  have out : Ev (fun k => broadsheetlaw17_ETagMays.j0 k l star (B s) (B u) n true w v) true := by
    refine Ev.step (fun k => (show broadsheetlaw17_ETagMays.j0 (k + 1) l star (B s) (B u) n true w v = _ from by rw [broadsheetlaw17_ETagMays.j0])) ?_
    simp only [if_true]
    exact Ev.bind awake17 (Ev.now _)
  by_cases hl : l.length > 50
  · simp only [if_pos (show (l.length : Int) > 50 by omega)]
    exact out
  · simp only [if_neg (show ¬ (l.length : Int) > 50 by omega)]
    by_cases hs : s.length > 1000
    · simp only [if_pos (show ((B s).size : Int) > 1000 by rw [B_size]; omega)]
      exact out
    · simp only [if_neg (show ¬ ((B s).size : Int) > 1000 by rw [B_size]; omega)]
      by_cases hu : u.length > 1000
      · simp only [decide_eq_true (show ((B u).size : Int) > 1000 by rw [B_size]; omega)]
        exact out
      · simp only [decide_eq_false (show ¬ ((B u).size : Int) > 1000 by rw [B_size]; omega)]
        refine Ev.step (fun k => (show broadsheetlaw17_ETagMays.j0 (k + 1) l star (B s) (B u) n false w v = _ from by rw [broadsheetlaw17_ETagMays.j0])) ?_
        simp only [Bool.false_eq_true, if_false, ghas l (by omega), Option.bind_some]
        refine Ev.bind awake17 ?_
        simp only [if_true]
        refine Ev.bind (rhas_ev l (by omega) star w v _ _) ?_
        simp only [if_true, beq_self_eq_true]
        refine Ev.bind (gmay_ev s u (by omega) (by omega) w v _ _) ?_
        refine Ev.bind (rmay_ev s u (by omega) (by omega) w v _ _) ?_
        simp only [beq_self_eq_true]
        exact Ev.now _
end Go.Proofs.YtodhbldnmepmaaaDoor.Pure
