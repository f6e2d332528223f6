/- Plain law: what is split is told as it was. -/
import Derived.Test.YtldancekpigkaaaDoorS10
namespace Go.Proofs.YtldancekpigkaaaDoor.S
open Go.RowKit Go.Lib Go.Proofs.YtldancekpigkaaaDoorW.PrintWords Go.Proofs.YtldancekpigkaaaDoor.X Go.Proofs.YtldancekpigkaaaDoor.Pl Go.Proofs.YtldancekpigkaaaDoor.U
set_option linter.unusedSimpArgs false

theorem sp0_fst (s : Bs) : (sp0 s).1.length ≤ s.length := by
  unfold sp0
  split
  · exact tw_len _ _
  · simp
theorem sp1_fst (s : Bs) : (sp1 s).1.length ≤ s.length := by
  unfold sp1
  split
  · have := tw_len [47, 63, 35] (s.drop 2)
    rw [List.length_drop] at this
    simp only
    omega
  · simp
theorem sp3_fst (s : Bs) : (sp3 s).1.length ≤ s.length ∧ (sp3 s).2.2.length ≤ s.length := by
  unfold sp3
  split
  · have h1 := tw_len [35] s.tail
    have h2 := dw_len [35] s.tail
    rw [List.length_tail] at h1 h2
    simp only
    omega
  · simp
theorem rest2_len (s : Bs) : (rest2 s).length ≤ s.length := by
  have h0 := sp0_len s
  have h1 := sp1_len (sp0 s).2.2
  unfold rest2
  omega
theorem rest3_len (s : Bs) : (rest3 s).length ≤ s.length := by
  have h0 := rest2_len s
  have h1 := dw_len [63, 35] (rest2 s)
  unfold rest3
  omega
theorem rest4_len (s : Bs) : (rest4 s).length ≤ s.length := by
  have h0 := rest3_len s
  have h1 := (sp3_fst (rest3 s)).2
  unfold rest4
  omega
theorem tw_dw (set l : Bs) : l.takeWhile (notIn set) ++ l.dropWhile (notIn set) = l := List.takeWhile_append_dropWhile
theorem sp0_told (s : Bs) : (if (sp0 s).2.1 = true then (sp0 s).1 ++ [58] else []) ++ (sp0 s).2.2 = s := by
  unfold sp0
  by_cases h : (s.dropWhile (notIn [58, 47, 63, 35])).head? = some 58
  · rw [if_pos h]
    simp only [if_true]
    have e := tw_dw [58, 47, 63, 35] s
    cases hd : s.dropWhile (notIn [58, 47, 63, 35]) with
    | nil => rw [hd] at h; cases h
    | cons c t =>
      rw [hd] at h e
      cases h
      rw [List.tail_cons, List.append_assoc]
      exact e
  · rw [if_neg h]
    simp
theorem sp1_told (s : Bs) : (if (sp1 s).2.1 = true then 47 :: 47 :: (sp1 s).1 else []) ++ (sp1 s).2.2 = s := by
  unfold sp1
  by_cases h : hasPrefix s [47, 47] = true
  · rw [if_pos h]
    simp only [if_true, List.cons_append]
    rw [tw_dw]
    unfold hasPrefix at h
    rw [List.isPrefixOf_iff_prefix] at h
    obtain ⟨t, rfl⟩ := h
    rfl
  · rw [if_neg h]
    simp
theorem sp3_told (s : Bs) : (if (sp3 s).2.1 = true then 63 :: (sp3 s).1 else []) ++ (sp3 s).2.2 = s := by
  unfold sp3
  by_cases h : s.head? = some 63
  · rw [if_pos h]
    simp only [if_true, List.cons_append]
    rw [tw_dw]
    cases s with
    | nil => cases h
    | cons c t => cases h; rfl
  · rw [if_neg h]
    simp
theorem rest4_told (s : Bs) : (if (!(rest4 s).isEmpty) = true then 35 :: (rest4 s).tail else []) = rest4 s := by
  rcases rest4_head s with h | ⟨t, h⟩
  · rw [h]; rfl
  · rw [h]; rfl
theorem split_told (s : Bs) : uriL (sp0 s).1 (sp1 (sp0 s).2.2).1 ((rest2 s).takeWhile (notIn [63, 35])) (sp3 (rest3 s)).1 (rest4 s).tail (sp0 s).2.1 (sp1 (sp0 s).2.2).2.1 (sp3 (rest3 s)).2.1 (!(rest4 s).isEmpty) = s := by
  unfold uriL
  rw [rest4_told]
  have e4 : rest4 s = (sp3 (rest3 s)).2.2 := rfl
  have e3 : rest3 s = (rest2 s).dropWhile (notIn [63, 35]) := rfl
  have e2 : rest2 s = (sp1 (sp0 s).2.2).2.2 := rfl
  rw [List.append_assoc, e4, sp3_told, List.append_assoc, e3, tw_dw, List.append_assoc, e2, sp1_told, sp0_told]
theorem gprint (a b c d e : Bs) (p q r t : Bool) (h : a.length + b.length + c.length + d.length + e.length ≤ 140737488350000) : locator_Print.f (B a) (B b) (B c) (B d) (B e) p q r t = some (B (uriL a b c d e p q r t)) := by
  unfold locator_Print.f
  rw [if_pos (show (B a).size + (B b).size + (B c).size + (B d).size + (B e).size ≤ 140737488350000 from h)]
  rfl
/-- The parts' text, as locator.Print tells it. -/
theorem gprint_split (s : Bs) (hs : s.length < 1000000) : locator_Print.f (splitV s).1 (splitV s).2.1 (splitV s).2.2.1 (splitV s).2.2.2.1 (splitV s).2.2.2.2.1 (splitV s).2.2.2.2.2.1 (splitV s).2.2.2.2.2.2.1 (splitV s).2.2.2.2.2.2.2.1 (splitV s).2.2.2.2.2.2.2.2 = some (B s) := by
  have l1 := sp0_fst s
  have l2 := sp1_fst (sp0 s).2.2
  have l3 := sp0_len s
  have l4 := tw_len [63, 35] (rest2 s)
  have l5 := rest2_len s
  have l6 := (sp3_fst (rest3 s)).1
  have l7 := rest3_len s
  have l8 := rest4_len s
  have l9 : (rest4 s).tail.length ≤ (rest4 s).length := by rw [List.length_tail]; omega
  exact (gprint (sp0 s).1 (sp1 (sp0 s).2.2).1 ((rest2 s).takeWhile (notIn [63, 35])) (sp3 (rest3 s)).1 (rest4 s).tail (sp0 s).2.1 (sp1 (sp0 s).2.2).2.1 (sp3 (rest3 s)).2.1 (!(rest4 s).isEmpty) (by omega)).trans (congrArg (fun l => some (B l)) (split_told s))
end Go.Proofs.YtldancekpigkaaaDoor.S
