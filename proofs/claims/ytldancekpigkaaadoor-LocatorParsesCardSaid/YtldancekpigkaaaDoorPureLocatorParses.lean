/- Plain law: the parts of any text are the document's, or it is refused (LocatorParses). -/
import Derived.Test.YtldancekpigkaaaDoorS4
import Derived.Test.YtldancekpigkaaaDoorPa2
namespace Go.Proofs.YtldancekpigkaaaDoor.Pure
open Go.RowKit Go.Lib Go.Proofs.YtldancekpigkaaaDoorW.PrintWords Go.Proofs.YtldancekpigkaaaDoor.X Go.Proofs.YtldancekpigkaaaDoor.Pl Go.Proofs.YtldancekpigkaaaDoor.Pa Go.Proofs.YtldancekpigkaaaDoor.U Go.Proofs.YtldancekpigkaaaDoor.S
set_option linter.unusedSimpArgs false

theorem LocatorParses : broadsheetlaw12_LocatorParses.Pure := by
  intro a _
  obtain ⟨s, rfl⟩ := B_eta a
  refine Ev.rounds (g := fun k => broadsheetlaw12_LocatorParses.f k (B s)) ?_
  unfold broadsheetlaw12_LocatorParses.f broadsheetlaw12_awake.f
  by_cases hs : s.length > 2000
  · simp only [if_pos (show ((B s).size : Int) > 2000 by rw [B_size]; omega), Option.bind_some]
    exact Ev.now _
  · simp only [if_neg (show ¬ ((B s).size : Int) > 2000 by rw [B_size]; omega)]
    refine Ev.bind (gparse_ev s (by omega)) ?_
    refine Ev.bind (rparse_ev s (by omega)) ?_
    simp only [Option.bind_some, if_true, beq_self_eq_true, Bool.and_self]
    exact Ev.now _
end Go.Proofs.YtldancekpigkaaaDoor.Pure
