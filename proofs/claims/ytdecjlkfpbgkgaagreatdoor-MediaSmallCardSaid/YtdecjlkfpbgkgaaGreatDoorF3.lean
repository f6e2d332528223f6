/- Plain law of media types: the reference's Param and Fits are the program's. -/
import Derived.Test.YtdecjlkfpbgkgaaGreatDoorF2
import Derived.Test.YtdecjlkfpbgkgaaGreatDoorPm5
import Derived.Test.YtdecjlkfpbgkgaaGreatDoorPm6
namespace Go.Proofs.YtdecjlkfpbgkgaaGreatDoor.F
open Go.RowKit Go.Lib Go.Proofs.YtdecjlkfpbgkgaaGreatDoorW.PrintWords Go.Proofs.YtdecjlkfpbgkgaaGreatDoor.X Go.Proofs.YtdecjlkfpbgkgaaGreatDoor.Pm Go.Proofs.YtdecjlkfpbgkgaaGreatDoor.U
set_option linter.unusedSimpArgs false
theorem rd_at (l : List S38) (i : Nat) (h : i < l.length) : rd_T38 l (i : Int) = l[i] := by
  unfold rd_T38
  rw [Int.toNat_natCast, List.getD_eq_getElem?_getD, List.getElem?_eq_getElem h, Option.getD_some]
theorem rparam_l0 (t u : ByteArray) (l : List S38) (n : ByteArray) (hl : l.length ≤ 4611686018427387903) : ∀ (d i : Nat), l.length - i ≤ d → i ≤ l.length → Ev (fun k => broadsheetref13_Param.l0 k n (i : Int) t u l) (paramW (l.drop i) n) := by
  have fin : ∀ (i : Nat), ¬ i < l.length → Ev (fun k => broadsheetref13_Param.l0 k n (i : Int) t u l) (paramW (l.drop i) n) := by
    intro i h
    refine Ev.step (fun k => (show broadsheetref13_Param.l0 (k + 1) n (i : Int) t u l = _ from by rw [broadsheetref13_Param.l0])) ?_
    rw [List.drop_eq_nil_of_le (by omega)]
    exact Ev.ite_neg (by omega) (Ev.now _)
  intro d
  induction d with
  | zero => intro i hd hi; exact fin i (by omega)
  | succ d ih =>
    intro i hd hi
    by_cases h : i < l.length
    · refine Ev.step (fun k => (show broadsheetref13_Param.l0 (k + 1) n (i : Int) t u l = _ from by rw [broadsheetref13_Param.l0])) ?_
      rw [rd_at l i h, wstep i (by omega), paramW_at l n i h]
      refine Ev.ite_pos (by omega) (Ev.ite_pos (by omega) ?_)
      by_cases hs : l[i].f0.toList = n.toList
      · rw [if_pos (show sameN n l[i] = true from beq_iff_eq.2 hs)]
        exact Ev.ite_pos hs (Ev.now _)
      · rw [if_neg (show ¬ sameN n l[i] = true from fun hh => hs (beq_iff_eq.1 hh))]
        exact Ev.ite_neg hs (ih (i + 1) (by omega) (by omega))
    · exact fin i h
theorem rparam_ev (t u : ByteArray) (l : List S38) (n : ByteArray) (hl : l.length ≤ 4611686018427387903) : Ev (fun k => broadsheetref13_Param.f k t u l n) (paramW l n) :=
  rparam_l0 t u l n hl l.length 0 (by omega) (by omega)
theorem B_L (s : ByteArray) : B (L s) = s := rfl
theorem rlow (s : ByteArray) (h : s.size < 140737488355328) : Ev (fun k => broadsheetref07_Lower.f k s) (B (small (L s))) := rlower_ev (L s) h
/-- Sizes of values that stay small. -/
def ValsLt (l : List S38) : Prop := ∀ x ∈ l, x.f1.size < 140737488355328
theorem param_lt (m : List S38) (n : ByteArray) (h : ValsLt m) : (paramW m n).1.size < 140737488355328 := by
  unfold paramW
  cases hf : m.find? (sameN n) with
  | none => exact (by decide : (0 : Nat) < 140737488355328)
  | some x => exact h x (List.mem_of_find?_eq_some hf)
theorem rfits_l0 (a1 a2 : ByteArray) (l : List S38) (b1 b2 : ByteArray) (m : List S38) (hl : l.length ≤ 4611686018427387903) (hm : m.length ≤ 4611686018427387903) (vl : ValsLt l) (vm : ValsLt m) : ∀ (d i : Nat), l.length - i ≤ d → i ≤ l.length → Ev (fun k => broadsheetref13_Fits.l0 k (i : Int) a1 a2 l b1 b2 m) ((l.drop i).all (parB m)) := by
  have fin : ∀ (i : Nat), ¬ i < l.length → Ev (fun k => broadsheetref13_Fits.l0 k (i : Int) a1 a2 l b1 b2 m) ((l.drop i).all (parB m)) := by
    intro i h
    refine Ev.step (fun k => (show broadsheetref13_Fits.l0 (k + 1) (i : Int) a1 a2 l b1 b2 m = _ from by rw [broadsheetref13_Fits.l0])) ?_
    rw [List.drop_eq_nil_of_le (by omega)]
    exact Ev.ite_neg (by omega) (Ev.now _)
  intro d
  induction d with
  | zero => intro i hd hi; exact fin i (by omega)
  | succ d ih =>
    intro i hd hi
    by_cases h : i < l.length
    · refine Ev.step (fun k => (show broadsheetref13_Fits.l0 (k + 1) (i : Int) a1 a2 l b1 b2 m = _ from by rw [broadsheetref13_Fits.l0])) ?_
      have next := ih (i + 1) (by omega) (by omega)
      have hv := vl _ (List.getElem_mem h)
      rw [rd_at l i h, wstep i (by omega), show (l.drop i).all (parB m) = (parB m l[i] && (l.drop (i + 1)).all (parB m)) from by rw [List.drop_eq_getElem_cons h, List.all_cons]]
      generalize l[i] = x at hv
      refine Ev.ite_pos (by omega) (Ev.ite_pos (by omega) ?_)
      unfold parB
      by_cases hq : x.f0.toList = [113]
      · rw [show (x.f0.toList == [113]) = true from beq_iff_eq.2 hq, Bool.true_or, Bool.true_and]
        exact Ev.ite_pos hq next
      · rw [show (x.f0.toList == [113]) = false from beq_eq_false_iff_ne.2 hq, Bool.false_or]
        refine Ev.ite_neg hq (Ev.bind (rparam_ev b1 b2 m x.f0 hm) ?_)
        show Ev _ (((paramW m x.f0).2 && small (L (paramW m x.f0).1) == small (L x.f1)) && _)
        have hp := param_lt m x.f0 vm
        cases hk : (paramW m x.f0).2 with
        | false =>
          rw [Bool.false_and, Bool.false_and]
          exact Ev.ite_neg (by decide) (Ev.now _)
        | true =>
          rw [Bool.true_and]
          refine Ev.ite_pos rfl (Ev.bind (rlow _ hp) (Ev.bind (rlow _ hv) ?_))
          rw [B_toList, B_toList]
          by_cases he : small (L (paramW m x.f0).1) = small (L x.f1)
          · rw [show (small (L (paramW m x.f0).1) == small (L x.f1)) = true from beq_iff_eq.2 he, Bool.true_and]
            exact Ev.ite_pos he next
          · rw [show (small (L (paramW m x.f0).1) == small (L x.f1)) = false from beq_eq_false_iff_ne.2 he, Bool.false_and]
            exact Ev.ite_neg he (Ev.now _)
    · exact fin i h
theorem rfits_ev (a1 a2 : ByteArray) (l : List S38) (b1 b2 : ByteArray) (m : List S38) (hl : l.length ≤ 4611686018427387903) (hm : m.length ≤ 4611686018427387903) (vl : ValsLt l) (vm : ValsLt m) : Ev (fun k => broadsheetref13_Fits.f k a1 a2 l b1 b2 m) (fitsV a1 a2 l b1 b2 m) := by
  have jf : Ev (fun k => broadsheetref13_Fits.j0 k false a1 a2 l b1 b2 m) (l.all (parB m)) := by
    refine Ev.step (fun k => (show broadsheetref13_Fits.j0 (k + 1) false a1 a2 l b1 b2 m = _ from by rw [broadsheetref13_Fits.j0])) ?_
    exact Ev.ite_neg (by decide) (rfits_l0 a1 a2 l b1 b2 m hl hm vl vm l.length 0 (by omega) (by omega))
  have jt : Ev (fun k => broadsheetref13_Fits.j0 k true a1 a2 l b1 b2 m) false := by
    refine Ev.step (fun k => (show broadsheetref13_Fits.j0 (k + 1) true a1 a2 l b1 b2 m = _ from by rw [broadsheetref13_Fits.j0])) ?_
    exact Ev.ite_pos rfl (Ev.now _)
  have second : hitB a1 b1 = true → Ev (fun k => if a2.toList = ([42] : List UInt8) then (broadsheetref13_Fits.j0 k false a1 a2 l b1 b2 m) else (broadsheetref13_Fits.j0 k (a2.toList != b2.toList) a1 a2 l b1 b2 m)) (fitsV a1 a2 l b1 b2 m) := by
    intro h1
    unfold fitsV
    rw [h1, Bool.true_and]
    by_cases h2 : a2.toList = [42]
    · rw [show hitB a2 b2 = true from by unfold hitB; rw [beq_iff_eq.2 h2, Bool.true_or], Bool.true_and]
      exact Ev.ite_pos h2 jf
    · refine Ev.ite_neg h2 ?_
      by_cases h3 : a2.toList = b2.toList
      · rw [show hitB a2 b2 = true from by unfold hitB; rw [beq_iff_eq.2 h3, Bool.or_true], Bool.true_and, show (a2.toList != b2.toList) = false from bne_eq_false_iff_eq.2 h3]
        exact jf
      · rw [show hitB a2 b2 = false from by unfold hitB; rw [beq_eq_false_iff_ne.2 h3, beq_eq_false_iff_ne.2 h2]; rfl, Bool.false_and, show (a2.toList != b2.toList) = true from bne_iff_ne.2 h3]
        exact jt
  unfold broadsheetref13_Fits.f
  by_cases h1 : a1.toList = [42]
  · exact Ev.ite_pos h1 (second (by unfold hitB; rw [beq_iff_eq.2 h1, Bool.true_or]))
  · refine Ev.ite_neg h1 ?_
    by_cases h3 : a1.toList = b1.toList
    · exact Ev.ite_pos h3 (second (by unfold hitB; rw [beq_iff_eq.2 h3, Bool.or_true]))
    · refine Ev.ite_neg h3 ?_
      unfold fitsV
      rw [show hitB a1 b1 = false from by unfold hitB; rw [beq_eq_false_iff_ne.2 h3, beq_eq_false_iff_ne.2 h1]; rfl, Bool.false_and, Bool.false_and]
      exact jt
theorem smallVals_lt {l : List S38} (h : ValsLt l) : smallVals l = true := List.all_eq_true.2 fun x hx => decide_eq_true (Nat.le_of_lt (h x hx))
theorem gfits (a1 a2 : ByteArray) (l : List S38) (b1 b2 : ByteArray) (m : List S38) (vl : ValsLt l) (vm : ValsLt m) : media_Fits.f a1 a2 l b1 b2 m = some (fitsV a1 a2 l b1 b2 m) := by
  unfold media_Fits.f
  rw [if_pos ⟨smallVals_lt vl, smallVals_lt vm⟩]
theorem parse_lt (s : Bs) (h : s.length < 140737488355328) : ValsLt (parseV s).2.2.1 := fun x hx => Nat.lt_of_le_of_lt (parse_vals s x hx) h
end Go.Proofs.YtdecjlkfpbgkgaaGreatDoor.F
