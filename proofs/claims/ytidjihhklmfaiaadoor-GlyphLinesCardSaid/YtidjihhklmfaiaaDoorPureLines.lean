/- Plain law: plain lines have no 13, plain lines of them are the same, and of two texts they are those of both unless a line end is between (GlyphLines). -/
import Derived.Test.YtidjihhklmfaiaaDoorU6
import Derived.Test.YtidjihhklmfaiaaDoorPg5
namespace Go.Proofs.YtidjihhklmfaiaaDoor.Pure
open Go.RowKit Go.Lib Go.Proofs.YtidjihhklmfaiaaDoorW.PrintWords Go.Proofs.YtidjihhklmfaiaaDoor.X Go.Proofs.YtidjihhklmfaiaaDoor.Pg Go.Proofs.YtidjihhklmfaiaaDoor.U

theorem lines_j3 (s t : Bs) (b : Bool) (hs : s.length ≤ 3000) (ht : t.length ≤ 3000) (h : b = true ∨ linesL (s ++ t) = linesL s ++ linesL t) : Ev (fun k => broadsheetlaw05_GlyphLines.j3 k (B s) (B t) true (B (linesL s)) b) true := by
  refine Ev.step (fun k => (show broadsheetlaw05_GlyphLines.j3 (k + 1) (B s) (B t) true (B (linesL s)) b = _ from by rw [broadsheetlaw05_GlyphLines.j3])) ?_
  cases b with
  | true => simp only [if_true]; exact Ev.now _
  | false =>
    have h : linesL (s ++ t) = linesL s ++ linesL t := by simpa using h
    have l1 := linesL_length _ s (Nat.le_refl _)
    have l2 := linesL_length _ t (Nat.le_refl _)
    simp only [Bool.false_eq_true, if_false, if_true, B_size, B_append, if_pos (show s.length + t.length ≤ 9223372036854775807 by omega), glines (s ++ t) (by rw [List.length_append]; omega), glines t (by omega), Option.bind_some, if_pos (show (linesL s).length + (linesL t).length ≤ 9223372036854775807 by omega), h, beq_self_eq_true]
    exact Ev.now _
theorem lines_j2 (s t : Bs) (hs : s.length ≤ 3000) (ht : t.length ≤ 3000) : Ev (fun k => broadsheetlaw05_GlyphLines.j2 k (B s) (B t) true (B (linesL s)) false) true := by
  refine Ev.step (fun k => (show broadsheetlaw05_GlyphLines.j2 (k + 1) (B s) (B t) true (B (linesL s)) false = _ from by rw [broadsheetlaw05_GlyphLines.j2])) ?_
  have happ : ¬ (s.getLast? = some 13 ∧ t.head? = some 10) → linesL (s ++ t) = linesL s ++ linesL t := linesL_append _ s t (Nat.le_refl _)
  simp only [Bool.false_eq_true, if_false, B_toList]
  by_cases h0 : s = []
  · subst h0
    simp only [if_true]
    exact lines_j3 [] t false hs ht (.inr (happ (by simp)))
  · have hp : 0 < s.length := List.length_pos_iff.2 h0
    have e1 : wrap64 (((B s).size : Int) - 1) = ((s.length - 1 : Nat) : Int) := by rw [B_size, w64 (by omega) (by omega)]; omega
    simp only [if_neg h0, e1, if_pos (show (0 : Int) ≤ ((s.length - 1 : Nat) : Int) by omega), if_pos (show ((s.length - 1 : Nat) : Int) < ((B s).size : Int) by rw [B_size]; omega), bt_val s (s.length - 1) (by omega)]
    have hlast : s.getLast? = some (s[s.length - 1]'(by omega)) := by rw [List.getLast?_eq_getElem?, List.getElem?_eq_getElem (by omega)]
    by_cases hc : s[s.length - 1]'(by omega) = 13
    · simp only [hc, if_pos (show (((13 : UInt8).toNat : Nat) : Int) = 13 from rfl)]
      by_cases ht0 : t = []
      · subst ht0
        simp only [if_true]
        exact lines_j3 s [] false hs ht (.inr (happ (by simp)))
      · have htp : 0 < t.length := List.length_pos_iff.2 ht0
        have hb : bt (B t) 0 = (t[0].toNat : Int) := bt_val t 0 htp
        simp only [if_neg ht0, if_pos (show (0 : Int) < ((B t).size : Int) by rw [B_size]; omega), hb]
        refine lines_j3 s t _ hs ht ?_
        by_cases hd : t[0] = 10
        · left; rw [hd]; rfl
        · right
          refine happ (fun hh => hd ?_)
          have := hh.2
          rw [List.head?_eq_getElem?, List.getElem?_eq_getElem htp] at this
          exact Option.some.inj this
    · simp only [if_neg (show ¬ ((s[s.length - 1].toNat : Nat) : Int) = 13 from val_ne _ 13 hc)]
      refine lines_j3 s t false hs ht (.inr (happ (fun hh => hc ?_)))
      have := hh.1
      rw [hlast] at this
      exact Option.some.inj this
theorem lines_l0 (s t a : Bs) (hs : s.length ≤ 3000) (ht : t.length ≤ 3000) (ha : a = linesL s) : ∀ (d i : Nat), a.length - i ≤ d → i ≤ a.length → Ev (fun k => broadsheetlaw05_GlyphLines.l0 k (B s) (B t) true (B a) (i : Int)) true := by
  have hal : a.length ≤ s.length := by rw [ha]; exact linesL_length _ s (Nat.le_refl _)
  have h13 : ∀ c ∈ a, c ≠ 13 := by rw [ha]; exact linesL_no13 _ s (Nat.le_refl _)
  have fin : ∀ i : Nat, ¬ i < a.length → Ev (fun k => broadsheetlaw05_GlyphLines.l0 k (B s) (B t) true (B a) (i : Int)) true := by
    intro i h
    refine Ev.step (fun k => (show broadsheetlaw05_GlyphLines.l0 (k + 1) (B s) (B t) true (B a) i = _ from by rw [broadsheetlaw05_GlyphLines.l0])) ?_
    simp only [if_neg (show ¬ (i : Int) < ((B a).size : Int) by rw [B_size]; omega), glines a (by omega), Option.bind_some, linesL_plain a h13, if_true, decide_eq_false (show ¬ ((B a).size : Int) > ((B s).size : Int) by rw [B_size, B_size]; omega)]
    rw [ha]
    exact lines_j2 s t hs ht
  intro d
  induction d with
  | zero => intro i hd hi; exact fin i (by omega)
  | succ d ih =>
    intro i hd hi
    by_cases h : i < a.length
    · refine Ev.step (fun k => (show broadsheetlaw05_GlyphLines.l0 (k + 1) (B s) (B t) true (B a) i = _ from by rw [broadsheetlaw05_GlyphLines.l0])) ?_
      have e1 : wrap64 ((i : Int) + 1) = ((i + 1 : Nat) : Int) := by rw [w64 (by omega) (by omega)]; rfl
      simp only [B_size, if_pos (show (i : Int) < (a.length : Int) by omega), if_pos (show (0 : Int) ≤ (i : Int) by omega), bt_val a i h, if_neg (show ¬ ((a[i].toNat : Nat) : Int) = 13 from val_ne _ 13 (h13 _ (List.getElem_mem h))), e1]
      exact ih (i + 1) (by omega) (by omega)
    · exact fin i h
theorem GlyphLines : broadsheetlaw05_GlyphLines.Pure := by
  intro a0 a1 _ _
  obtain ⟨s, rfl⟩ := B_eta a0
  obtain ⟨t, rfl⟩ := B_eta a1
  refine Ev.rounds (g := fun k => broadsheetlaw05_GlyphLines.f k (B s) (B t)) ?_
  unfold broadsheetlaw05_GlyphLines.f
  refine Ev.bind awake05 ?_
  simp only [if_true]
  have out : Ev (fun k => broadsheetlaw05_GlyphLines.j0 k (B s) (B t) true true) true := by
    refine Ev.step (fun k => (show broadsheetlaw05_GlyphLines.j0 (k + 1) (B s) (B t) true true = _ from by rw [broadsheetlaw05_GlyphLines.j0])) ?_
    simp only [if_true]
    exact Ev.now _
  by_cases hl : s.length > 3000
  · simp only [if_pos (show ((B s).size : Int) > 3000 by rw [B_size]; omega)]
    exact out
  · simp only [if_neg (show ¬ ((B s).size : Int) > 3000 by rw [B_size]; omega)]
    by_cases ht : t.length > 3000
    · simp only [decide_eq_true (show ((B t).size : Int) > 3000 by rw [B_size]; omega)]
      exact out
    · simp only [decide_eq_false (show ¬ ((B t).size : Int) > 3000 by rw [B_size]; omega)]
      refine Ev.step (fun k => (show broadsheetlaw05_GlyphLines.j0 (k + 1) (B s) (B t) true false = _ from by rw [broadsheetlaw05_GlyphLines.j0])) ?_
      simp only [Bool.false_eq_true, if_false, glines s (by omega), Option.bind_some]
      have := lines_l0 s t (linesL s) (by omega) (by omega) rfl _ 0 (Nat.le_refl _) (by omega)
      exact this
end Go.Proofs.YtidjihhklmfaiaaDoor.Pure
