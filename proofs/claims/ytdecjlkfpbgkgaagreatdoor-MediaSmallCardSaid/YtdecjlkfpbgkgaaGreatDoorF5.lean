/- Plain law of media types: the reference's quote and Print are the program's. -/
import Derived.Test.YtdecjlkfpbgkgaaGreatDoorF3
import Derived.Test.YtdecjlkfpbgkgaaGreatDoorPm10
namespace Go.Proofs.YtdecjlkfpbgkgaaGreatDoor.F
open Go.RowKit Go.Lib Go.Proofs.YtdecjlkfpbgkgaaGreatDoorW.PrintWords Go.Proofs.YtdecjlkfpbgkgaaGreatDoor.X Go.Proofs.YtdecjlkfpbgkgaaGreatDoor.Pm Go.Proofs.YtdecjlkfpbgkgaaGreatDoor.U
set_option linter.unusedSimpArgs false
theorem extract_one (l : Bs) (i : Nat) (h : i < l.length) : (B l).extract i (i + 1) = B [l[i]] := by
  rw [B_extract, List.take_succ_eq_append_getElem h, List.drop_append_of_le_length (by rw [List.length_take]; omega), List.drop_of_length_le (by rw [List.length_take]; omega)]
  rfl
theorem escL_le (l : Bs) : (escL l).length ≤ 2 * l.length := by
  rw [escL_len]
  have := count_two l
  omega
theorem escL_snoc (l : Bs) (i : Nat) (h : i < l.length) : escL (l.take (i + 1)) = escL (l.take i) ++ escB l[i] := by
  rw [List.take_succ_eq_append_getElem h, escL_append, escL_one]
theorem rquote_l0 (l : Bs) (hl : l.length ≤ 1000000) : ∀ (d i : Nat), l.length - i ≤ d → i ≤ l.length → Ev (fun k => broadsheetref13_quote.l0 k (B l) (B (34 :: escL (l.take i))) (i : Int)) (B (34 :: (escL l ++ [34]))) := by
  have len : ∀ i, (34 :: escL (l.take i)).length ≤ 2000001 := fun i => by
    rw [List.length_cons]
    have h1 := escL_le (l.take i)
    have h2 : (l.take i).length ≤ l.length := by rw [List.length_take]; omega
    omega
  have fin : ∀ (i : Nat), ¬ i < l.length → Ev (fun k => broadsheetref13_quote.l0 k (B l) (B (34 :: escL (l.take i))) (i : Int)) (B (34 :: (escL l ++ [34]))) := by
    intro i h
    refine Ev.step (fun k => (show broadsheetref13_quote.l0 (k + 1) (B l) (B (34 :: escL (l.take i))) (i : Int) = _ from by rw [broadsheetref13_quote.l0])) ?_
    have h2 := len i
    rw [List.take_of_length_le (by omega)] at h2 ⊢
    refine Ev.ite_neg (by rw [B_size]; omega) (Ev.ite_pos (by rw [B_size]; omega) ?_)
    rw [show (B (34 :: escL l) ++ (⟨#[34]⟩ : ByteArray)) = B (34 :: (escL l ++ [34])) from B_append (34 :: escL l) [34]]
    exact Ev.now _
  intro d
  induction d with
  | zero => intro i hd hi; exact fin i (by omega)
  | succ d ih =>
    intro i hd hi
    by_cases h : i < l.length
    · refine Ev.step (fun k => (show broadsheetref13_quote.l0 (k + 1) (B l) (B (34 :: escL (l.take i))) (i : Int) = _ from by rw [broadsheetref13_quote.l0])) ?_
      have h2 := len i
      have next := ih (i + 1) (by omega) (by omega)
      rw [escL_snoc l i h] at next
      rw [bt_val l i h, wstep i (by omega), Int.toNat_natCast, Int.toNat_natCast, extract_one l i h]
      refine Ev.ite_pos (by rw [B_size]; omega) (Ev.ite_pos (by omega) ?_)
      have quoted : isQ l[i] = true → Ev (fun k => if (B (34 :: escL (l.take i))).size + 1 ≤ 9223372036854775807 then (if (i : Int) ≤ ((i + 1 : Nat) : Int) then (if ((i + 1 : Nat) : Int) ≤ ((B l).size : Int) then (if (B (34 :: escL (l.take i)) ++ (⟨#[92]⟩ : ByteArray)).size + (B [l[i]]).size ≤ 9223372036854775807 then (broadsheetref13_quote.l0 k (B l) ((B (34 :: escL (l.take i)) ++ (⟨#[92]⟩ : ByteArray)) ++ B [l[i]]) ((i + 1 : Nat) : Int)) else none) else none) else none) else none) (B (34 :: (escL l ++ [34]))) := by
        intro hq
        have e1 : (B (34 :: escL (l.take i)) ++ (⟨#[92]⟩ : ByteArray)) = B (34 :: (escL (l.take i) ++ [92])) := B_append (34 :: escL (l.take i)) [92]
        have e2 : (B (34 :: (escL (l.take i) ++ [92])) ++ B [l[i]]) = B (34 :: (escL (l.take i) ++ escB l[i])) := by
          rw [B_append]
          unfold escB
          rw [if_pos hq]
          simp
        rw [e1, e2]
        refine Ev.ite_pos (by rw [B_size]; omega) (Ev.ite_pos (by omega) (Ev.ite_pos (by rw [B_size]; omega) (Ev.ite_pos ?_ next)))
        rw [B_size, B_size]
        simp only [List.length_cons, List.length_append, List.length_nil] at h2 ⊢
        omega
      by_cases h34 : l[i] = 34
      · exact Ev.ite_pos (val_eq _ 34 h34) (quoted (by rw [h34]; rfl))
      · refine Ev.ite_neg (val_ne _ 34 h34) ?_
        by_cases h92 : l[i] = 92
        · exact Ev.ite_pos (val_eq _ 92 h92) (quoted (by rw [h92]; rfl))
        · refine Ev.ite_neg (val_ne _ 92 h92) ?_
          rw [escB_plain _ ⟨h34, h92⟩] at next
          have e1 : (B (34 :: escL (l.take i)) ++ B [l[i]]) = B (34 :: (escL (l.take i) ++ [l[i]])) := B_append (34 :: escL (l.take i)) [l[i]]
          rw [e1]
          refine Ev.ite_pos (by omega) (Ev.ite_pos (by rw [B_size]; omega) (Ev.ite_pos ?_ next))
          rw [B_size, B_size]
          simp only [List.length_cons, List.length_nil] at h2 ⊢
          omega
    · exact fin i h
theorem rquote_ev (l : Bs) (hl : l.length ≤ 1000000) : Ev (fun k => broadsheetref13_quote.f k (B l)) (B (quoteL l)) := by
  unfold broadsheetref13_quote.f
  refine Ev.bind (rtoken_ev l (by omega)) ?_
  have no : fieldTok l = false → Ev (fun k => broadsheetref13_quote.j0 k (B l) false) (B (quoteL l)) := by
    intro h
    refine Ev.step (fun k => (show broadsheetref13_quote.j0 (k + 1) (B l) false = _ from by rw [broadsheetref13_quote.j0])) ?_
    unfold quoteL
    rw [if_neg (by rw [h]; decide)]
    exact Ev.ite_neg (by decide) (rquote_l0 l hl l.length 0 (by omega) (by omega))
  by_cases ht : l.takeWhile tokB = []
  · exact Ev.ite_pos ((toList_nil _).2 ht) (no (by unfold fieldTok; rw [ht]; rfl))
  · have hte : (l.takeWhile tokB).isEmpty = false := List.isEmpty_eq_false_iff.2 ht
    refine Ev.ite_neg (fun hh => ht ((toList_nil _).1 hh)) ?_
    rw [B_toList]
    cases hd : l.dropWhile tokB with
    | nil =>
      refine Ev.step (fun k => (show broadsheetref13_quote.j0 (k + 1) (B l) (([] : List UInt8) == []) = _ from by rw [broadsheetref13_quote.j0])) ?_
      unfold quoteL
      rw [if_pos (by unfold fieldTok; rw [hte, hd]; rfl)]
      exact Ev.ite_pos rfl (Ev.now _)
    | cons c t => exact no (by unfold fieldTok; rw [hd]; simp)
theorem partsG_take (l : List S38) (i : Nat) (h : i < l.length) : partsG (l.take (i + 1)) = partsG (l.take i) ++ partG l[i] := by
  unfold partsG
  rw [List.take_succ_eq_append_getElem h, List.flatMap_append]
  simp
theorem rprint_l0 (t u : ByteArray) (l : List S38) (ht : tot l + t.size + u.size ≤ 1000000) (hl : l.length ≤ 1000000) : ∀ (d i : Nat), l.length - i ≤ d → i ≤ l.length → Ev (fun k => broadsheetref13_Print.l0 k (B (headT t u ++ partsG (l.take i))) (i : Int) t u l) (B (headT t u ++ partsG l)) := by
  have fin : ∀ (i : Nat), ¬ i < l.length → Ev (fun k => broadsheetref13_Print.l0 k (B (headT t u ++ partsG (l.take i))) (i : Int) t u l) (B (headT t u ++ partsG l)) := by
    intro i h
    refine Ev.step (fun k => (show broadsheetref13_Print.l0 (k + 1) (B (headT t u ++ partsG (l.take i))) (i : Int) t u l = _ from by rw [broadsheetref13_Print.l0])) ?_
    rw [List.take_of_length_le (by omega)]
    exact Ev.ite_neg (by omega) (Ev.now _)
  intro d
  induction d with
  | zero => intro i hd hi; exact fin i (by omega)
  | succ d ih =>
    intro i hd hi
    by_cases h : i < l.length
    · refine Ev.step (fun k => (show broadsheetref13_Print.l0 (k + 1) (B (headT t u ++ partsG (l.take i))) (i : Int) t u l = _ from by rw [broadsheetref13_Print.l0])) ?_
      have next := ih (i + 1) (by omega) (by omega)
      have h1 := tot_take l i h
      have h2 := partsG_len (l.take i)
      have h3 : (headT t u).length = t.size + 1 + u.size := by unfold headT; simp only [List.length_append, List.length_cons, List.length_nil]; rfl
      rw [partsG_take l i h, ← List.append_assoc] at next
      rw [rd_at l i h, wstep i (by omega)]
      generalize l[i] = x at next h1
      have h5 : (headT t u ++ partsG (l.take i)).length ≤ 3000000 := by rw [List.length_append]; omega
      generalize headT t u ++ partsG (l.take i) = A at next h5
      have hq := quoteL_len (L x.f1)
      have hx0 : (L x.f0).length = x.f0.size := rfl
      have hx1 : (L x.f1).length = x.f1.size := rfl
      have e1 : (B A ++ (⟨#[59, 32]⟩ : ByteArray)) = B (A ++ [59, 32]) := B_append A [59, 32]
      have e2 : (B (A ++ [59, 32]) ++ x.f0) = B (A ++ [59, 32] ++ L x.f0) := B_append (A ++ [59, 32]) (L x.f0)
      have e3 : (B (A ++ [59, 32] ++ L x.f0) ++ (⟨#[61]⟩ : ByteArray)) = B (A ++ [59, 32] ++ L x.f0 ++ [61]) := B_append _ [61]
      have e4 : (B (A ++ [59, 32] ++ L x.f0 ++ [61]) ++ B (quoteL (L x.f1))) = B (A ++ partG x) := by
        rw [B_append]
        unfold partG
        simp only [List.append_assoc]
      refine Ev.ite_pos (by omega) (Ev.ite_pos (by rw [B_size]; omega) (Ev.ite_pos (by omega) ?_))
      rw [e1]
      refine Ev.ite_pos (by rw [B_size, List.length_append]; simp only [List.length_cons, List.length_nil]; omega) ?_
      rw [e2]
      refine Ev.ite_pos (by rw [B_size, List.length_append, List.length_append]; simp only [List.length_cons, List.length_nil]; omega) ?_
      rw [e3]
      refine Ev.bind (rquote_ev (L x.f1) (by omega)) (Ev.ite_pos (by rw [B_size, B_size]; simp only [List.length_append, List.length_cons, List.length_nil]; omega) ?_)
      rw [e4]
      exact next
    · exact fin i h
theorem rprint_ev (t u : ByteArray) (l : List S38) (ht : tot l + t.size + u.size ≤ 1000000) (hl : l.length ≤ 1000000) : Ev (fun k => broadsheetref13_Print.f k t u l) (M (headT t u ++ partsG l)) := by
  unfold broadsheetref13_Print.f
  have e1 : (t ++ (⟨#[47]⟩ : ByteArray)) = B (L t ++ [47]) := B_append (L t) [47]
  have e2 : (B (L t ++ [47]) ++ u) = B (headT t u) := B_append (L t ++ [47]) (L u)
  have hx0 : (L t).length = t.size := rfl
  refine Ev.ite_pos (by omega) ?_
  rw [e1]
  refine Ev.ite_pos (by rw [B_size, List.length_append]; simp only [List.length_cons, List.length_nil]; omega) ?_
  rw [e2]
  have := rprint_l0 t u l ht hl l.length 0 (by omega) (by omega)
  rw [List.take_zero, show partsG [] = [] from rfl, List.append_nil] at this
  exact this
theorem gprint (t u : ByteArray) (l : List S38) (ht : tot l + t.size + u.size ≤ 1000000) (hl : l.length ≤ 1000000) : media_Print.f t u l = some (M (headT t u ++ partsG l)) := by
  unfold media_Print.f
  rw [if_pos ⟨ht, hl⟩]
end Go.Proofs.YtdecjlkfpbgkgaaGreatDoor.F
