/- FieldAgain: what is read and printed is read as before. -/
import Derived.Test.YtodhbldnmepmaaaDoorF4
import Derived.Test.YtodhbldnmepmaaaDoorF6
import Derived.Test.YtodhbldnmepmaaaDoorPf9
namespace Go.Proofs.YtodhbldnmepmaaaDoor.Pure
open Go.RowKit Go.Lib Go.Proofs.YtodhbldnmepmaaaDoorW.PrintWords Go.Proofs.YtodhbldnmepmaaaDoor.Pf Go.Proofs.YtodhbldnmepmaaaDoor.F
open Go.Proofs.YtodhbldnmepmaaaDoor.X hiding Bs
open Go.Proofs.YtodhbldnmepmaaaDoor.U hiding Bs
theorem good_print (s : F.Bs) (l : List S49) (hs : s.length ≤ 2000) (h : F.Good (2 * s.length) l) : printV l = (M (textT l ++ [13, 10]), 0) ∧ (textT l ++ [13, 10]).length ≤ 8000 := by
  have h1 : l.all okF = true := List.all_eq_true.2 fun x hx => (h.1 x hx).1
  have h2 : (textT l ++ [13, 10]).length ≤ 8000 := by
    rw [List.length_append, textT_len]
    have := h.2.1
    simp only [List.length_cons, List.length_nil]
    omega
  refine ⟨?_, h2⟩
  unfold printV
  rw [if_pos h1, if_neg (by omega)]
theorem FieldAgain : broadsheetlaw18_FieldAgain.Pure := by
  intro a0 _
  obtain ⟨s, rfl⟩ := B_eta a0
  refine Ev.rounds (g := fun k => broadsheetlaw18_FieldAgain.f k (B s)) ?_
  unfold broadsheetlaw18_FieldAgain.f
  refine Ev.bind awake18 (Ev.ite_pos rfl ?_)
  by_cases h : ((B s).size : Int) > 2000
  · exact Ev.ite_pos h (Ev.now _)
  · refine Ev.ite_neg h ?_
    have hs : s.length ≤ 2000 := by rw [B_size] at h; omega
    have hl := parseV_len s
    rw [gparse s (by omega)]
    refine Ev.some_bind ?_
    rcases parseV_good s with ⟨h1, h2, h3⟩ | ⟨h1, h2⟩
    · refine Ev.ite_neg h1 ?_
      rw [h2, h3]
      refine Ev.ite_pos rfl ?_
      have hnil : ((⟨#[]⟩ : ByteArray).toList == ([] : List UInt8)) = true := by rw [show (⟨#[]⟩ : ByteArray) = B [] from rfl, B_toList]; rfl
      rw [hnil]
      exact Ev.now _
    · obtain ⟨p1, p2⟩ := good_print s _ hs h2
      have hp := parse_text (parseV s).1 [] (fun x hx => (h2.1 x hx).1) p2
      rw [List.append_nil, good_low _ _ h2] at hp
      have h3 := h2.2.1
      generalize (parseV s).1 = l at hl h2 p1 p2 hp h3 ⊢
      refine Ev.ite_pos h1 ?_
      rw [gprint l (by omega) (by omega), p1]
      have hg := gparse (textT l ++ [13, 10]) (by omega)
      rw [hp] at hg
      refine Ev.some_bind ?_
      have hg2 : field_Parse.f (M (textT l ++ [13, 10]), (0 : Int)).1 = some (l, M [], 0) := hg
      rw [hg2]
      exact Ev.some_bind (Ev.ite_pos rfl (Ev.ite_pos rfl (Ev.ite_pos (B_toList []) (Ev.bind (same49_ev l (by omega)) (Ev.now _)))))
end Go.Proofs.YtodhbldnmepmaaaDoor.Pure
