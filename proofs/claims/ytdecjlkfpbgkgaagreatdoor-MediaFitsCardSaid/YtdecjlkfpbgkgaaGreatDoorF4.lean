/- Plain law of media types: how few parameters, and how short texts. -/
import Derived.Test.YtdecjlkfpbgkgaaGreatDoorF3
import Derived.Test.YtdecjlkfpbgkgaaGreatDoorPm8
namespace Go.Proofs.YtdecjlkfpbgkgaaGreatDoor.F
open Go.RowKit Go.Lib Go.Proofs.YtdecjlkfpbgkgaaGreatDoorW.PrintWords Go.Proofs.YtdecjlkfpbgkgaaGreatDoor.X Go.Proofs.YtdecjlkfpbgkgaaGreatDoor.Pm Go.Proofs.YtdecjlkfpbgkgaaGreatDoor.U
set_option linter.unusedSimpArgs false
/-- What a call is handed has this size at most. -/
def FitsRow (t u : ByteArray) (l : List S38) : Prop := t.size ≤ 140737488351232 ∧ u.size ≤ 140737488351232 ∧ l.length ≤ 140737488351232 ∧ ∀ x ∈ l, x.f0.size ≤ 140737488351232 ∧ x.f1.size ≤ 140737488351232
def fewN : Nat → List S38 → Bool
  | n, [] => decide (n ≤ 1000)
  | n, x :: r => if n ≤ 1000 then fewN (n + x.f0.size + x.f1.size + 1) r else false
theorem fewN_le : ∀ (l : List S38) (n : Nat), fewN n l = true → n ≤ 1000 ∧ l.length + n ≤ 1000 ∧ ∀ x ∈ l, x.f0.size ≤ 1000 ∧ x.f1.size ≤ 1000
  | [], n, h => by
    have := of_decide_eq_true h
    exact ⟨this, by simpa using this, fun x hx => by cases hx⟩
  | x :: r, n, h => by
    rw [fewN] at h
    split at h
    · rename_i hn
      obtain ⟨h1, h2, h3⟩ := fewN_le r _ h
      refine ⟨hn, by rw [List.length_cons]; omega, fun y hy => ?_⟩
      rcases List.mem_cons.1 hy with rfl | hy
      · omega
      · exact h3 y hy
    · cases h
theorem fewN_tot : ∀ (l : List S38) (n : Nat), fewN n l = true → n + tot l ≤ 1000 + 2 * l.length
  | [], n, h => by
    have := of_decide_eq_true h
    show n + 0 ≤ _
    omega
  | x :: r, n, h => by
    rw [fewN] at h
    split at h
    · have := fewN_tot r _ h
      show n + (x.f0.size + x.f1.size + 3 + tot r) ≤ 1000 + 2 * (r.length + 1)
      omega
    · cases h
theorem rfew_l0 (t u : ByteArray) (l : List S38) (hl : l.length ≤ 140737488351232) (hx : ∀ x ∈ l, x.f0.size ≤ 140737488351232 ∧ x.f1.size ≤ 140737488351232) : ∀ (d i n : Nat), l.length - i ≤ d → i ≤ l.length → n ≤ 562949953413000 → Ev (fun k => broadsheetlaw13_few.l0 k (n : Int) (i : Int) t u l) (fewN n (l.drop i)) := by
  have fin : ∀ (i n : Nat), ¬ i < l.length → Ev (fun k => broadsheetlaw13_few.l0 k (n : Int) (i : Int) t u l) (fewN n (l.drop i)) := by
    intro i n h
    refine Ev.step (fun k => (show broadsheetlaw13_few.l0 (k + 1) (n : Int) (i : Int) t u l = _ from by rw [broadsheetlaw13_few.l0])) ?_
    rw [List.drop_eq_nil_of_le (by omega), fewN, show decide (n ≤ 1000) = decide ((n : Int) ≤ 1000) from by rw [decide_eq_decide]; omega]
    exact Ev.ite_neg (by omega) (Ev.now _)
  intro d
  induction d with
  | zero => intro i n hd hi _; exact fin i n (by omega)
  | succ d ih =>
    intro i n hd hi hn
    by_cases h : i < l.length
    · refine Ev.step (fun k => (show broadsheetlaw13_few.l0 (k + 1) (n : Int) (i : Int) t u l = _ from by rw [broadsheetlaw13_few.l0])) ?_
      have hv := hx _ (List.getElem_mem h)
      rw [rd_at l i h, wstep i (by omega), List.drop_eq_getElem_cons h, fewN]
      generalize l[i] = x at hv
      refine Ev.ite_pos (by omega) ?_
      by_cases h1 : n ≤ 1000
      · rw [if_pos h1]
        refine Ev.ite_pos (by omega) (Ev.ite_pos (by omega) ?_)
        have e : wrap64 (wrap64 (wrap64 ((n : Int) + (x.f0.size : Int)) + (x.f1.size : Int)) + 1) = ((n + x.f0.size + x.f1.size + 1 : Nat) : Int) := by
          rw [w64 (x := (n : Int) + (x.f0.size : Int)) (by omega) (by omega), w64 (x := (n : Int) + (x.f0.size : Int) + (x.f1.size : Int)) (by omega) (by omega), w64 (by omega) (by omega)]
          omega
        rw [e]
        exact ih (i + 1) _ (by omega) (by omega) (by omega)
      · rw [if_neg h1]
        refine Ev.ite_neg (by omega) ?_
        rw [decide_eq_false (show ¬ (n : Int) ≤ 1000 by omega)]
        exact Ev.now _
    · exact fin i n h
def fewV (t u : ByteArray) (l : List S38) : Bool := fewN (t.size + u.size) l
theorem rfew_ev (t u : ByteArray) (l : List S38) (h : FitsRow t u l) : Ev (fun k => broadsheetlaw13_few.f k t u l) (fewV t u l) := by
  obtain ⟨h1, h2, h3, h4⟩ := h
  unfold broadsheetlaw13_few.f
  have e : wrap64 ((t.size : Int) + (u.size : Int)) = ((t.size + u.size : Nat) : Int) := by rw [w64 (by omega) (by omega)]; omega
  rw [e]
  exact rfew_l0 t u l h3 h4 l.length 0 (t.size + u.size) (by omega) (by omega) (by omega)
theorem few_lt {t u : ByteArray} {l : List S38} (h : fewV t u l = true) : ValsLt l := fun x hx => Nat.lt_of_le_of_lt ((fewN_le l _ h).2.2 x hx).2 (by decide)
theorem few_len {t u : ByteArray} {l : List S38} (h : fewV t u l = true) : l.length ≤ 1000 := by have := (fewN_le l _ h).2.1; omega
theorem few_tot {t u : ByteArray} {l : List S38} (h : fewV t u l = true) : tot l + t.size + u.size ≤ 3000 := by
  have h1 := fewN_tot l _ h
  have h2 := few_len h
  omega
end Go.Proofs.YtdecjlkfpbgkgaaGreatDoor.F
