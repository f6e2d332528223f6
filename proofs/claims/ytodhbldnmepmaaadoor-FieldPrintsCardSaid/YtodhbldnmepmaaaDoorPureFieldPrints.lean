/- FieldPrints: Print and Get of the program and of the document answer the same. -/
import Derived.Test.YtodhbldnmepmaaaDoorF5
import Derived.Test.YtodhbldnmepmaaaDoorPf7
namespace Go.Proofs.YtodhbldnmepmaaaDoor.Pure
open Go.RowKit Go.Lib Go.Proofs.YtodhbldnmepmaaaDoorW.PrintWords Go.Proofs.YtodhbldnmepmaaaDoor.Pf Go.Proofs.YtodhbldnmepmaaaDoor.F
open Go.Proofs.YtodhbldnmepmaaaDoor.X hiding Bs
open Go.Proofs.YtodhbldnmepmaaaDoor.U hiding Bs
theorem prints_j0 (l : List S49) (t : ByteArray) (b : Bool) (hb : b = false → tot l ≤ 8000 ∧ l.length ≤ 2000 ∧ t.size ≤ 300) : Ev (fun k => broadsheetlaw18_FieldPrints.j0 k l t b) true := by
  refine Ev.step (fun k => (show broadsheetlaw18_FieldPrints.j0 (k + 1) l t b = _ from by rw [broadsheetlaw18_FieldPrints.j0])) ?_
  cases b with
  | true => exact Ev.ite_pos rfl (Ev.bind awake18 (Ev.now _))
  | false =>
    obtain ⟨h1, h2, h3⟩ := hb rfl
    obtain ⟨n, rfl⟩ := B_eta t
    rw [B_size] at h3
    refine Ev.ite_neg (by decide) ?_
    rw [gprint l (by omega) (by omega)]
    refine Ev.some_bind (Ev.bind (rprint_ev l (by omega) (by omega)) (Ev.bind (gget_ev l n (by omega) (by omega) (by omega)) (Ev.bind (rget_ev l n (by omega) (by omega) (by omega)) (Ev.bind awake18 (Ev.ite_pos rfl (Ev.ite_pos rfl (Ev.ite_pos rfl (Ev.ite_pos rfl ?_))))))))
    rw [beq_self_eq_true]
    exact Ev.now _
theorem FieldPrints (l : List S49) (t : ByteArray) (hS : ∀ y ∈ l, y.f0.size ≤ 140737488351232 ∧ y.f1.size ≤ 140737488351232) : ∃ k, broadsheetlaw18_FieldPrints.f k l t = some true := by
  refine Ev.rounds (g := fun k => broadsheetlaw18_FieldPrints.f k l t) ?_
  unfold broadsheetlaw18_FieldPrints.f
  obtain ⟨b, hb, he⟩ := few_ev l hS
  refine Ev.bind he ?_
  cases b with
  | true =>
    obtain ⟨h1, h2⟩ := hb rfl
    refine Ev.ite_pos rfl (prints_j0 l t _ (fun h => ⟨h1, h2, ?_⟩))
    have := of_decide_eq_false h
    omega
  | false => exact Ev.ite_neg (by decide) (prints_j0 l t true (fun h => by cases h))
end Go.Proofs.YtodhbldnmepmaaaDoor.Pure
