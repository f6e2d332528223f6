/- MediaParses: the document's Parse and the program's answer the same. -/
import Derived.Test.YtdecjlkfpbgkgaaGreatDoorF2
import Derived.Test.YtdecjlkfpbgkgaaGreatDoorPm6
namespace Go.Proofs.YtdecjlkfpbgkgaaGreatDoor.Pure
open Go.RowKit Go.Lib Go.Proofs.YtdecjlkfpbgkgaaGreatDoorW.PrintWords Go.Proofs.YtdecjlkfpbgkgaaGreatDoor.X Go.Proofs.YtdecjlkfpbgkgaaGreatDoor.Pm Go.Proofs.YtdecjlkfpbgkgaaGreatDoor.F
open Go.Proofs.YtdecjlkfpbgkgaaGreatDoor.U hiding Bs
theorem MediaParses : broadsheetlaw13_MediaParses.Pure := by
  intro a0 _
  obtain ⟨s, rfl⟩ := B_eta a0
  refine Ev.rounds (g := fun k => broadsheetlaw13_MediaParses.f k (B s)) ?_
  unfold broadsheetlaw13_MediaParses.f
  rw [awake13]
  by_cases h : ((B s).size : Int) > 1000
  · exact Ev.ite_pos h (Ev.now _)
  · have hs : s.length ≤ 1000 := by rw [B_size] at h; omega
    have hl := parse_len s
    refine Ev.ite_neg h ?_
    rw [gparse s (by omega)]
    refine Ev.some_bind (Ev.bind (rparse_ev s (by omega)) (Ev.some_bind (Ev.ite_pos rfl (Ev.bind (a := true) ?_ (Ev.ite_pos rfl ?_)))))
    · unfold broadsheetref13_Same.f
      exact Ev.ite_pos rfl (Ev.ite_pos rfl (Ev.bind (same38_ev _ (by omega)) (Ev.now _)))
    · rw [beq_self_eq_true]
      exact Ev.now _
end Go.Proofs.YtdecjlkfpbgkgaaGreatDoor.Pure
