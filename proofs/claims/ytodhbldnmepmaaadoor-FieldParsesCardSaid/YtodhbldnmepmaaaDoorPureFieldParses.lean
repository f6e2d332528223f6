/- FieldParses: the document's Parse and the program's answer the same. -/
import Derived.Test.YtodhbldnmepmaaaDoorF3
namespace Go.Proofs.YtodhbldnmepmaaaDoor.Pure
open Go.RowKit Go.Lib Go.Proofs.YtodhbldnmepmaaaDoorW.PrintWords Go.Proofs.YtodhbldnmepmaaaDoor.X Go.Proofs.YtodhbldnmepmaaaDoor.Pf Go.Proofs.YtodhbldnmepmaaaDoor.F
open Go.Proofs.YtodhbldnmepmaaaDoor.U hiding Bs
theorem FieldParses : broadsheetlaw18_FieldParses.Pure := by
  intro a0 _
  obtain ⟨s, rfl⟩ := B_eta a0
  refine Ev.rounds (g := fun k => broadsheetlaw18_FieldParses.f k (B s)) ?_
  unfold broadsheetlaw18_FieldParses.f
  by_cases h : ((B s).size : Int) > 2000
  · exact Ev.ite_pos h (Ev.bind awake18 (Ev.now _))
  · have hs : s.length ≤ 2000 := by rw [B_size] at h; omega
    have hl := parseV_len s
    refine Ev.ite_neg h ?_
    rw [gparse s (by omega)]
    refine Ev.some_bind (Ev.bind (rparse_ev s (by omega)) (Ev.bind awake18 (Ev.ite_pos rfl (Ev.bind (same49_ev _ (by omega)) (Ev.ite_pos rfl (Ev.ite_pos rfl ?_))))))
    rw [beq_self_eq_true]
    exact Ev.now _
end Go.Proofs.YtodhbldnmepmaaaDoor.Pure
