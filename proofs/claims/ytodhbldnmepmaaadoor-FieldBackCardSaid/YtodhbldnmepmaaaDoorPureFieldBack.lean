/- FieldBack: what is printed is read as it was. -/
import Derived.Test.YtodhbldnmepmaaaDoorF4
import Derived.Test.YtodhbldnmepmaaaDoorF6
import Derived.Test.YtodhbldnmepmaaaDoorPf8
namespace Go.Proofs.YtodhbldnmepmaaaDoor.Pure
open Go.RowKit Go.Lib Go.Proofs.YtodhbldnmepmaaaDoorW.PrintWords Go.Proofs.YtodhbldnmepmaaaDoor.Pf Go.Proofs.YtodhbldnmepmaaaDoor.F
open Go.Proofs.YtodhbldnmepmaaaDoor.X hiding Bs
open Go.Proofs.YtodhbldnmepmaaaDoor.U hiding Bs
theorem back_l0 (l : List S49) (ht : tot l ≤ 8000) (hl : l.length ≤ 2000) : ∀ (d i : Nat), l.length - i ≤ d → i ≤ l.length → Ev (fun k => broadsheetlaw18_FieldBack.l0 k l true (l.map low) (i : Int)) true := by
  have fin : ∀ i, ¬ i < l.length → Ev (fun k => broadsheetlaw18_FieldBack.l0 k l true (l.map low) (i : Int)) true := by
    intro i h
    refine Ev.step (fun k => (show broadsheetlaw18_FieldBack.l0 (k + 1) l true (l.map low) (i : Int) = _ from by rw [broadsheetlaw18_FieldBack.l0])) ?_
    exact Ev.ite_neg (by omega) (Ev.now _)
  intro d
  induction d with
  | zero => intro i hd hi; exact fin i (by omega)
  | succ d ih =>
    intro i hd hi
    by_cases h : i < l.length
    · refine Ev.step (fun k => (show broadsheetlaw18_FieldBack.l0 (k + 1) l true (l.map low) (i : Int) = _ from by rw [broadsheetlaw18_FieldBack.l0])) ?_
      have hm : i < (l.map low).length := by rw [List.length_map]; exact h
      rw [rd49 l i h, rd49 (l.map low) i hm, List.getElem_map, wstep i (by omega)]
      have hs := (tot_take l i h).1
      unfold low
      obtain ⟨n, hn⟩ := B_eta l[i].f0
      rw [hn] at hs
      rw [hn]
      rw [B_size] at hs
      refine Ev.ite_pos (by omega) (Ev.ite_pos (by omega) (Ev.ite_pos (by rw [List.length_map]; omega) (Ev.bind (rlower_ev n (by omega)) (Ev.ite_pos rfl (Ev.ite_pos rfl ?_)))))
      exact ih (i + 1) (by omega) (by omega)
    · exact fin i h
theorem back_j0 (l : List S49) (t : ByteArray) (b : Bool) (hb : b = false → tot l ≤ 8000 ∧ l.length ≤ 2000 ∧ t.size ≤ 300) : Ev (fun k => broadsheetlaw18_FieldBack.j0 k l t true b) true := by
  refine Ev.step (fun k => (show broadsheetlaw18_FieldBack.j0 (k + 1) l t true b = _ from by rw [broadsheetlaw18_FieldBack.j0])) ?_
  cases b with
  | true => exact Ev.ite_pos rfl (Ev.now _)
  | false =>
    obtain ⟨h1, h2, h3⟩ := hb rfl
    obtain ⟨r, rfl⟩ := B_eta t
    rw [B_size] at h3
    refine Ev.ite_neg (by decide) ?_
    rw [gprint l (by omega) (by omega)]
    refine Ev.some_bind ?_
    rcases print_cases l with ⟨p1, p2⟩ | ⟨p1, p2, p3⟩
    · refine Ev.ite_neg p1 (Ev.ite_pos rfl ?_)
      rw [p2]
      have hnil : ((⟨#[]⟩ : ByteArray).toList == ([] : List UInt8)) = true := by rw [show (⟨#[]⟩ : ByteArray) = B [] from rfl, B_toList]; rfl
      rw [hnil]
      exact Ev.now _
    · rw [p1]
      refine Ev.ite_pos rfl ?_
      have hg := gparse (textT l ++ [13, 10] ++ r) (by rw [List.length_append]; omega)
      rw [parse_text l r p2 p3] at hg
      have hsz : (M (textT l ++ [13, 10])).size = (textT l ++ [13, 10]).length := rfl
      refine Ev.ite_pos (by show (M (textT l ++ [13, 10])).size + (B r).size ≤ _; rw [hsz, B_size]; omega) ?_
      have he : (M (textT l ++ [13, 10]), (0 : Int)).1 ++ B r = B (textT l ++ [13, 10] ++ r) := B_append _ _
      rw [he, hg]
      refine Ev.some_bind (Ev.ite_pos rfl (Ev.ite_pos rfl ?_))
      have hne : (((l.map low).length : Int) != (l.length : Int)) = false := by rw [List.length_map]; simp
      show Ev (fun k => broadsheetlaw18_FieldBack.j1 k l true (l.map low) (((l.map low).length : Int) != (l.length : Int))) true
      rw [hne]
      refine Ev.step (fun k => (show broadsheetlaw18_FieldBack.j1 (k + 1) l true (l.map low) false = _ from by rw [broadsheetlaw18_FieldBack.j1])) ?_
      exact Ev.ite_neg (by decide) (back_l0 l h1 h2 l.length 0 (by omega) (by omega))
theorem FieldBack (l : List S49) (t : ByteArray) (hS : ∀ y ∈ l, y.f0.size ≤ 140737488351232 ∧ y.f1.size ≤ 140737488351232) : ∃ k, broadsheetlaw18_FieldBack.f k l t = some true := by
  refine Ev.rounds (g := fun k => broadsheetlaw18_FieldBack.f k l t) ?_
  unfold broadsheetlaw18_FieldBack.f
  obtain ⟨b, hb, he⟩ := few_ev l hS
  refine Ev.bind awake18 (Ev.ite_pos rfl (Ev.bind he ?_))
  cases b with
  | true =>
    obtain ⟨h1, h2⟩ := hb rfl
    refine Ev.ite_pos rfl (back_j0 l t _ (fun h => ⟨h1, h2, ?_⟩))
    have := of_decide_eq_false h
    omega
  | false => exact Ev.ite_neg (by decide) (back_j0 l t true (fun h => by cases h))
end Go.Proofs.YtodhbldnmepmaaaDoor.Pure
