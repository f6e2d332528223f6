/- Plain law: what any code point may be is what the document says (GlyphChars, GlyphNear). -/
import Derived.Test.YtidjihhklmfaiaaDoorU4
import Derived.Test.YtidjihhklmfaiaaDoorPg2
namespace Go.Proofs.YtidjihhklmfaiaaDoor.Pure
open Go.RowKit Go.Lib Go.Proofs.YtidjihhklmfaiaaDoorW.PrintWords Go.Proofs.YtidjihhklmfaiaaDoor.X Go.Proofs.YtidjihhklmfaiaaDoor.Pg Go.Proofs.YtidjihhklmfaiaaDoor.U

theorem GlyphChars : broadsheetlaw05_GlyphChars.Pure := by
  intro c _
  refine Ev.rounds (g := fun k => broadsheetlaw05_GlyphChars.f k c) ?_
  unfold broadsheetlaw05_GlyphChars.f glyph_Char.f glyph_Start.f glyph_Part.f
  refine Ev.bind awake05 ?_
  simp only [if_true, Option.bind_some]
  refine Ev.bind (rchar_ev c) ?_
  simp only [beq_self_eq_true, if_true]
  refine Ev.bind (rstart_ev c) ?_
  simp only [beq_self_eq_true, if_true]
  refine Ev.bind (rpart_ev c) ?_
  simp only [beq_self_eq_true]
  exact Ev.now _

theorem near_ev (a : Int) : ∀ (d i : Nat), 200 - i ≤ d → i ≤ 200 → Ev (fun k => broadsheetlaw05_GlyphNear.l0 k a (i : Int)) true := by
  intro d
  induction d with
  | zero =>
    intro i hd hi
    refine Ev.step (fun k => (show broadsheetlaw05_GlyphNear.l0 (k + 1) a i = _ from by rw [broadsheetlaw05_GlyphNear.l0])) ?_
    simp only [if_neg (show ¬ (i : Int) < 200 by omega)]
    exact Ev.bind awake05 (Ev.now _)
  | succ d ih =>
    intro i hd hi
    refine Ev.step (fun k => (show broadsheetlaw05_GlyphNear.l0 (k + 1) a i = _ from by rw [broadsheetlaw05_GlyphNear.l0])) ?_
    by_cases h : i < 200
    · have e : wrap64 ((i : Int) + 1) = ((i + 1 : Nat) : Int) := by rw [w64 (by omega) (by omega)]; rfl
      simp only [if_pos (show (i : Int) < 200 by omega), e, glyph_Char.f, glyph_Start.f, glyph_Part.f, Option.bind_some]
      generalize wrap64 ((Int.tmod (wrap64 (a)) 1114112) + (i : Int)) = c
      refine Ev.bind (rchar_ev c) ?_
      simp only [bne_self_eq_false, Bool.false_eq_true, if_false]
      refine Ev.bind (rstart_ev c) ?_
      simp only [bne_self_eq_false, Bool.false_eq_true, if_false]
      refine Ev.bind (rpart_ev c) ?_
      simp only [bne_self_eq_false, Bool.false_eq_true, if_false]
      exact ih (i + 1) (by omega) (by omega)
    · simp only [if_neg (show ¬ (i : Int) < 200 by omega)]
      exact Ev.bind awake05 (Ev.now _)
theorem GlyphNear : broadsheetlaw05_GlyphNear.Pure := by
  intro a _
  have := near_ev a 200 0 (by omega) (by omega)
  refine Ev.rounds (g := fun k => broadsheetlaw05_GlyphNear.f k a) ?_
  unfold broadsheetlaw05_GlyphNear.f
  exact this
end Go.Proofs.YtidjihhklmfaiaaDoor.Pure
