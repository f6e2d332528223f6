/- Plain law: which text may be, its plain lines and the name at its head are what the document says; a name and what stands behind it are the text (GlyphTexts, GlyphNames). -/
import Derived.Test.YtidjihhklmfaiaaDoorU6
import Derived.Test.YtidjihhklmfaiaaDoorPg4
namespace Go.Proofs.YtidjihhklmfaiaaDoor.Pure
open Go.RowKit Go.Lib Go.Proofs.YtidjihhklmfaiaaDoorW.PrintWords Go.Proofs.YtidjihhklmfaiaaDoor.X Go.Proofs.YtidjihhklmfaiaaDoor.Pg Go.Proofs.YtidjihhklmfaiaaDoor.U

theorem GlyphTexts : broadsheetlaw05_GlyphTexts.Pure := by
  intro a0 _
  obtain ⟨s, rfl⟩ := B_eta a0
  refine Ev.rounds (g := fun k => broadsheetlaw05_GlyphTexts.f k (B s)) ?_
  unfold broadsheetlaw05_GlyphTexts.f
  by_cases hl : s.length > 3000
  · simp only [if_pos (show ((B s).size : Int) > 3000 by rw [B_size]; omega)]
    exact Ev.bind awake05 (Ev.now _)
  · simp only [if_neg (show ¬ ((B s).size : Int) > 3000 by rw [B_size]; omega)]
    refine Ev.bind (gname_ev s (by omega)) ?_
    refine Ev.bind (rname_ev s (by omega)) ?_
    refine Ev.bind awake05 ?_
    simp only [if_true, gcheck s (by omega), Option.bind_some]
    refine Ev.bind (rcheck_ev s) ?_
    simp only [if_true, glines s (by omega), Option.bind_some]
    refine Ev.bind (rlines_ev s (by omega)) ?_
    simp only [if_true]
    refine Ev.bind (gplain_ev s (by omega)) ?_
    refine Ev.bind (rplain_ev s (by omega)) ?_
    simp only [beq_self_eq_true]
    exact Ev.now _

theorem first_take (l : Bs) (m : Nat) (hm : (decodeL l).2 ≤ m) (hb : ¬ bad l) (h0 : l ≠ []) : firstL (l.take m) = firstL l ∧ decodeL (l.take m) = decodeL l := by
  have e := decodeL_take l m hm hb h0
  have hw := wid_pos l
  have hp : 0 < l.length := List.length_pos_iff.2 h0
  have h1 : l.take m ≠ [] := by
    intro h
    have := congrArg List.length h
    rw [List.length_take] at this
    simp only [List.length_nil] at this
    omega
  refine ⟨?_, e⟩
  rw [firstL_good h0 hb, firstL_good h1 (by unfold bad; rw [e]; exact hb), e]
theorem nameN_take : ∀ (f : Nat) (b : Bool) (l : Bs), nameN f b (l.take (nameN f b l)) = nameN f b l := by
  intro f
  induction f with
  | zero => intro b l; rfl
  | succ f ih =>
    intro b l
    by_cases h0 : l = []
    · subst h0; simp [nameN]
    · rw [nameN_step f b l h0]
      by_cases hg : goesB b l = true
      · rw [if_pos hg]
        have hz : (firstL l).2 ≠ 0 := by
          intro h
          unfold goesB at hg
          simp [h] at hg
        obtain ⟨_, hb, e⟩ := first_ok hz
        have hw := wid_pos l
        have hp : 0 < l.length := List.length_pos_iff.2 h0
        obtain ⟨e1, e2⟩ := first_take l ((decodeL l).2 + nameN f false (l.drop (decodeL l).2)) (by omega) hb h0
        have h1 : l.take ((decodeL l).2 + nameN f false (l.drop (decodeL l).2)) ≠ [] := by
          intro h
          have := congrArg List.length h
          rw [List.length_take] at this
          simp only [List.length_nil] at this
          omega
        have hg2 : goesB b (l.take ((decodeL l).2 + nameN f false (l.drop (decodeL l).2))) = true := by
          unfold goesB at hg ⊢
          rw [e1]
          exact hg
        rw [nameN_step f b _ h1, if_pos hg2, e2, List.drop_take, Nat.add_sub_cancel_left, ih false (l.drop (decodeL l).2)]
      · rw [if_neg hg, List.take_zero]
        simp [nameN]
theorem nameL_take (s : Bs) : nameL (s.take (nameL s)) = nameL s := by
  have h := nameN_take s.length true s
  have hl := nameN_le s.length true s
  unfold nameL
  rw [nameN_fuel _ s.length true (s.take (nameN s.length true s)) (Nat.le_refl _) (by rw [List.length_take]; omega)]
  exact h
theorem names_j0 (r : Bs) (h : r = [] ∨ goesB false r = false) : Ev (fun k => broadsheetlaw05_GlyphNames.j0 k true (B r) false) true := by
  refine Ev.step (fun k => (show broadsheetlaw05_GlyphNames.j0 (k + 1) true (B r) false = _ from by rw [broadsheetlaw05_GlyphNames.j0])) ?_
  simp only [Bool.false_eq_true, if_false]
  refine Ev.bind (first_ev r) ?_
  simp only [if_true]
  by_cases hz : (firstL r).2 = 0
  · simp only [if_pos hz]
    exact Ev.now _
  · have hp : partB (firstL r).1 = false := by
      rcases h with h | h
      · subst h; exact absurd rfl hz
      · unfold goesB at h
        simpa [hz] using h
    simp only [if_neg hz, glyph_Part.f, Option.bind_some, hp]
    exact Ev.now _
theorem GlyphNames : broadsheetlaw05_GlyphNames.Pure := by
  intro a0 _
  obtain ⟨s, rfl⟩ := B_eta a0
  refine Ev.rounds (g := fun k => broadsheetlaw05_GlyphNames.f k (B s)) ?_
  unfold broadsheetlaw05_GlyphNames.f
  refine Ev.bind awake05 ?_
  simp only [if_true]
  by_cases hl : s.length > 3000
  · simp only [if_pos (show ((B s).size : Int) > 3000 by rw [B_size]; omega)]
    exact Ev.now _
  · simp only [if_neg (show ¬ ((B s).size : Int) > 3000 by rw [B_size]; omega)]
    refine Ev.bind (gname_ev s (by omega)) ?_
    have hle := nameL_le s
    by_cases h0 : nameL s = 0
    · rw [nameRes_zero h0]
      simp only [if_neg (show ¬ (51 : Int) = 0 by decide), if_pos (show (⟨#[]⟩ : ByteArray).toList = ([] : List UInt8) from B_toList [])]
      refine Ev.bind (gplain_ev s (by omega)) ?_
      have : plainB s = false := by unfold plainB; simp [h0]
      rw [this]
      exact Ev.now _
    · rw [nameRes_some h0]
      simp only [if_true]
      refine Ev.bind (gname_ev _ (by rw [List.length_take]; omega)) ?_
      have hn : s.take (nameL s) ≠ [] := by
        intro h
        have := congrArg List.length h
        rw [List.length_take] at this
        simp only [List.length_nil] at this
        omega
      rw [nameL_take, nameRes_some h0]
      have e1 : (s.take (nameL s)).take (nameL s) = s.take (nameL s) := by rw [List.take_take, Nat.min_self]
      have e2 : (s.take (nameL s)).drop (nameL s) = [] := by rw [List.drop_take, Nat.sub_self, List.take_zero]
      rw [e1, e2]
      simp only [B_toList, if_neg hn, B_append, List.take_append_drop, B_size, if_true, if_pos (show (s.take (nameL s)).length + (s.drop (nameL s)).length ≤ 9223372036854775807 by rw [List.length_take, List.length_drop]; omega), bne_self_eq_false]
      exact names_j0 _ (nameN_stop _ _ _ (Nat.le_refl _) (.inl h0))
end Go.Proofs.YtidjihhklmfaiaaDoor.Pure
