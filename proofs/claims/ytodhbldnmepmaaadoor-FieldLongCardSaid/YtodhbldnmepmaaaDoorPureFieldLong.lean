/- FieldLong: long texts. -/
import Derived.Test.YtodhbldnmepmaaaDoorF4
import Derived.DataShut
namespace Go.Proofs.YtodhbldnmepmaaaDoor.Pure
open Go.RowKit Go.Lib Go.Proofs.YtodhbldnmepmaaaDoorW.PrintWords Go.Proofs.YtodhbldnmepmaaaDoor.Pf Go.Proofs.YtodhbldnmepmaaaDoor.F
open Go.Proofs.YtodhbldnmepmaaaDoor.X hiding Bs
open Go.Proofs.YtodhbldnmepmaaaDoor.U hiding Bs
theorem long_j0 (u s : F.Bs) (l : List S49) (hu : u.length ≤ 1000) (hs : s.length ≤ 100000) (h1 : tot l ≤ 1000000) (h2 : l.length ≤ 1000) : Ev (fun k => broadsheetlaw18_FieldLong.j0 k (B u) (B s) l) true := by
  refine Ev.step (fun k => (show broadsheetlaw18_FieldLong.j0 (k + 1) (B u) (B s) l = _ from by rw [broadsheetlaw18_FieldLong.j0])) ?_
  have hl := parseV_len (s ++ u)
  rw [List.length_append] at hl
  rw [B_append, gparse (s ++ u) (by rw [List.length_append]; omega), gprint l (by omega) (by omega)]
  refine Ev.ite_pos (by rw [B_size, B_size]; omega) (Ev.some_bind (Ev.bind (rparse_ev _ (by rw [List.length_append]; omega)) (Ev.some_bind (Ev.bind (rprint_ev l (by omega) (by omega)) (Ev.bind awake18 (Ev.ite_pos rfl (Ev.bind (same49_ev _ (by omega)) (Ev.ite_pos rfl (Ev.ite_pos rfl (Ev.ite_pos rfl (Ev.ite_pos rfl ?_)))))))))))
  rw [beq_self_eq_true]
  exact Ev.now _
theorem FieldLong : broadsheetlaw18_FieldLong.Pure := by
  intro a0 a1 a2 hw _
  obtain ⟨u, rfl⟩ := B_eta a2
  have hr := (Lit.wf_int_iff .u8 a0).1 hw
  have h0 : 0 ≤ a0 := hr.1
  have h255 : a0 ≤ 255 := hr.2
  refine Ev.rounds (g := fun k => broadsheetlaw18_FieldLong.f k a0 a1 (B u)) ?_
  unfold broadsheetlaw18_FieldLong.f
  by_cases h : ((B u).size : Int) > 1000
  · exact Ev.ite_pos h (Ev.bind awake18 (Ev.now _))
  · refine Ev.ite_neg h ?_
    have hu : u.length ≤ 1000 := by rw [B_size] at h; omega
    obtain ⟨m, hm⟩ : ∃ m : Nat, a0 = m := ⟨a0.toNat, by omega⟩
    subst hm
    have e0 : wrap64 ((m : Int)) = m := w64 (by omega) (by omega)
    have e1 : wrap64 (7900 + (m : Int)) = ((7900 + m : Nat) : Int) := by rw [w64 (by omega) (by omega)]; omega
    have e2 : wrap64 (((7900 + m : Nat) : Int) - 6) = ((7894 + m : Nat) : Int) := by rw [w64 (by omega) (by omega)]; omega
    have e3 : wrap64 (((7900 + m : Nat) : Int) - 7) = ((7893 + m : Nat) : Int) := by rw [w64 (by omega) (by omega)]; omega
    have e4 : wrap64 (((7900 + m : Nat) : Int) - 2) = ((7898 + m : Nat) : Int) := by rw [w64 (by omega) (by omega)]; omega
    have e5 : wrap64 (Int.tdiv ((7898 + m : Nat) : Int) 5) = (((7898 + m) / 5 : Nat) : Int) := by
      have : Int.tdiv ((7898 + m : Nat) : Int) 5 = (((7898 + m) / 5 : Nat) : Int) := rfl
      rw [this, w64 (by omega) (by omega)]
    simp only [e0, e1, e2, e3, e4, e5]
    obtain ⟨r1, l1, v1⟩ := many_ev [120] (7894 + m) (by omega) (by decide)
    obtain ⟨r2, l2, v2⟩ := many_ev [120] (7893 + m) (by omega) (by decide)
    obtain ⟨r3, l3, v3⟩ := many_ev [97, 58, 98, 13, 10] ((7898 + m) / 5) (by omega) (by decide)
    simp only [List.length_cons, List.length_nil] at l1 l2 l3
    have ht : tot [(⟨B [97], B r2⟩ : S49)] ≤ 1000000 := by
      simp only [tot, B_size, List.length_cons, List.length_nil]
      omega
    refine Ev.bind v1 ?_
    rw [show (⟨#[97, 58]⟩ : ByteArray) = B [97, 58] from rfl, show (⟨#[13, 10, 13, 10]⟩ : ByteArray) = B [13, 10, 13, 10] from rfl, B_append, B_append, B_size, B_size]
    refine Ev.ite_pos (by omega) (Ev.ite_pos (by simp only [List.length_append, List.length_cons, List.length_nil]; omega) (Ev.bind v2 (Ev.some_bind ?_)))
    cases a1 with
    | true =>
      refine Ev.ite_pos rfl (Ev.bind v3 ?_)
      rw [show (⟨#[13, 10]⟩ : ByteArray) = B [13, 10] from rfl, B_append, B_size]
      exact Ev.ite_pos (by omega) (long_j0 u _ _ hu (by simp only [List.length_append, List.length_cons, List.length_nil]; omega) ht (by simp))
    | false => exact Ev.ite_neg (by decide) (long_j0 u _ _ hu (by simp only [List.length_append, List.length_cons, List.length_nil]; omega) ht (by simp))
end Go.Proofs.YtodhbldnmepmaaaDoor.Pure
