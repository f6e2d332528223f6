/- Plain law: any name's prefix, and its space by any scope, is what the document says (PrefixSplits). -/
import Derived.Test.YtidjihhklmfaiaaDoorV7
namespace Go.Proofs.YtidjihhklmfaiaaDoor.Pure
open Go.RowKit Go.Lib Go.Proofs.YtidjihhklmfaiaaDoorW.PrintWords Go.Proofs.YtidjihhklmfaiaaDoor.X Go.Proofs.YtidjihhklmfaiaaDoor.Px Go.Proofs.YtidjihhklmfaiaaDoor.U Go.Proofs.YtidjihhklmfaiaaDoor.V

theorem PrefixSplits (l : List S30) (a : ByteArray) (attr : Bool) : ∃ k, broadsheetlaw08_PrefixSplits.f k l a attr = some true := by
  obtain ⟨s, rfl⟩ := B_eta a
  refine Ev.rounds (g := fun k => broadsheetlaw08_PrefixSplits.f k l (B s) attr) ?_
  unfold broadsheetlaw08_PrefixSplits.f
  have out : Ev (fun k => broadsheetlaw08_PrefixSplits.j0 k l (B s) attr true) true := by
    refine Ev.step (fun k => (show broadsheetlaw08_PrefixSplits.j0 (k + 1) l (B s) attr true = _ from by rw [broadsheetlaw08_PrefixSplits.j0])) ?_
    simp only [if_true]
    exact Ev.bind awake08 (Ev.now _)
  by_cases hl : l.length > 100
  · simp only [if_pos (show (l.length : Int) > 100 by omega)]
    exact out
  · simp only [if_neg (show ¬ (l.length : Int) > 100 by omega)]
    by_cases hs : s.length > 300
    · simp only [decide_eq_true (show ((B s).size : Int) > 300 by rw [B_size]; omega)]
      exact out
    · simp only [decide_eq_false (show ¬ ((B s).size : Int) > 300 by rw [B_size]; omega)]
      refine Ev.step (fun k => (show broadsheetlaw08_PrefixSplits.j0 (k + 1) l (B s) attr false = _ from by rw [broadsheetlaw08_PrefixSplits.j0])) ?_
      simp only [Bool.false_eq_true, if_false]
      refine Ev.bind (gsplit_ev s (by omega)) ?_
      refine Ev.bind (rsplit_ev s (by omega)) ?_
      refine Ev.bind (gresolve_ev l (by omega) s (by omega) attr) ?_
      refine Ev.bind (rresolve_ev l (by omega) s (by omega) attr) ?_
      refine Ev.bind awake08 ?_
      simp only [if_true, beq_self_eq_true]
      exact Ev.now _
end Go.Proofs.YtidjihhklmfaiaaDoor.Pure
