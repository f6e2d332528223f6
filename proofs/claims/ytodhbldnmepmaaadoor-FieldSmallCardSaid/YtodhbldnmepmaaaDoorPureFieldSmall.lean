/- FieldSmall: texts laid together out of few pieces. -/
import Derived.Test.YtodhbldnmepmaaaDoorF3
import Derived.Test.YtodhbldnmepmaaaDoorPf9
import Derived.DataShut
namespace Go.Proofs.YtodhbldnmepmaaaDoor.Pure
open Go.RowKit Go.Lib Go.Proofs.YtodhbldnmepmaaaDoorW.PrintWords Go.Proofs.YtodhbldnmepmaaaDoor.Pf Go.Proofs.YtodhbldnmepmaaaDoor.F
open Go.Proofs.YtodhbldnmepmaaaDoor.X hiding Bs
open Go.Proofs.YtodhbldnmepmaaaDoor.U hiding Bs
set_option linter.unusedSimpArgs false

theorem rd_nat (l : List Int) (i : Nat) : rd l (i : Int) = l.getD i 0 := by simp [rd]
theorem u8_at {l : List Int} (hw : ∀ x ∈ l, (Lit.int .u8 x).wf = true) (i : Nat) (h : i < l.length) : 0 ≤ rd l (i : Int) ∧ rd l (i : Int) ≤ 255 := by
  rw [rd_nat, List.getD_eq_getElem?_getD, List.getElem?_eq_getElem h]
  exact (Lit.wf_int_iff .u8 _).1 (hw _ (List.getElem_mem h))
theorem piece_at (l : List Int) (ps : List ByteArray) (hw : ∀ x ∈ l, (Lit.int .u8 x).wf = true) (hn : 0 < ps.length) (hm : ps.length ≤ 255) (hp : ∀ j, j < ps.length → (ps.getD j ByteArray.empty).size ≤ 8) (i : Nat) (h : i < l.length) :
    ∃ (j : Nat) (q : Bs), Int.tmod (wrap64 (rd l (i : Int))) (ps.length : Int) = (j : Int) ∧ j < ps.length ∧ rdOf ByteArray.empty ps (j : Int) = B q ∧ q.length ≤ 8 := by
  obtain ⟨u0, u1⟩ := u8_at hw i h
  have e0 : wrap64 (rd l (i : Int)) = rd l (i : Int) := w64 (by omega) (by omega)
  rw [e0]
  have m0 : 0 ≤ Int.tmod (rd l (i : Int)) (ps.length : Int) := Int.tmod_nonneg _ u0
  have m1 : Int.tmod (rd l (i : Int)) (ps.length : Int) < (ps.length : Int) := Int.tmod_lt_of_pos _ (by omega)
  obtain ⟨j, hj⟩ : ∃ j : Nat, Int.tmod (rd l (i : Int)) (ps.length : Int) = j := ⟨_, (Int.toNat_of_nonneg m0).symm⟩
  have hjl : j < ps.length := by rw [hj] at m1; omega
  obtain ⟨q, hq⟩ := B_eta (ps.getD j ByteArray.empty)
  refine ⟨j, q, hj, hjl, ?_, ?_⟩
  · show ps.getD (j : Int).toNat ByteArray.empty = B q
    rw [Int.toNat_natCast]
    exact hq
  · have := hp j hjl
    rw [hq, B_size] at this
    exact this
theorem pieces_l0 (l : List Int) (ps : List ByteArray) (hw : ∀ x ∈ l, (Lit.int .u8 x).wf = true) (hn : 0 < ps.length) (hm : ps.length ≤ 255) (hp : ∀ j, j < ps.length → (ps.getD j ByteArray.empty).size ≤ 8) :
    ∀ (d i : Nat) (acc : Bs), 12 - i ≤ d → i ≤ 12 → acc.length ≤ 8 * i → ∃ r : Bs, r.length ≤ 96 ∧ Ev (fun k => broadsheetlaw05_Pieces.l0 k l ps (B acc) (i : Int)) (B r) := by
  have fin : ∀ (i : Nat) (acc : Bs), ¬ (i < l.length ∧ i < 12) → Ev (fun k => broadsheetlaw05_Pieces.l0 k l ps (B acc) (i : Int)) (B acc) := by
    intro i acc h
    refine Ev.step (fun k => (show broadsheetlaw05_Pieces.l0 (k + 1) l ps (B acc) i = _ from by rw [broadsheetlaw05_Pieces.l0])) ?_
    by_cases h1 : i < l.length
    · simp only [if_pos (show (i : Int) < (l.length : Int) by omega), if_neg (show ¬ (i : Int) < 12 by omega)]
      exact Ev.now _
    · simp only [if_neg (show ¬ (i : Int) < (l.length : Int) by omega)]
      exact Ev.now _
  intro d
  induction d with
  | zero =>
    intro i acc hd hi ha
    exact ⟨acc, by omega, fin i acc (by omega)⟩
  | succ d ih =>
    intro i acc hd hi ha
    by_cases h : i < l.length ∧ i < 12
    · obtain ⟨j, q, hj, hjl, hq, hql⟩ := piece_at l ps hw hn hm hp i h.1
      have e1 : wrap64 ((i : Int) + 1) = ((i + 1 : Nat) : Int) := by rw [w64 (by omega) (by omega)]; rfl
      obtain ⟨r, hr, he⟩ := ih (i + 1) (acc ++ q) (by omega) (by omega) (by rw [List.length_append]; omega)
      refine ⟨r, hr, ?_⟩
      refine Ev.step (fun k => (show broadsheetlaw05_Pieces.l0 (k + 1) l ps (B acc) i = _ from by rw [broadsheetlaw05_Pieces.l0])) ?_
      simp only [if_pos (show (i : Int) < (l.length : Int) by omega), if_pos (show (i : Int) < 12 by omega), if_pos (show (0 : Int) ≤ (i : Int) by omega), hj, if_neg (show ¬ (ps.length : Int) = 0 by omega), if_pos (show (0 : Int) ≤ (j : Int) by omega), if_pos (show (j : Int) < (ps.length : Int) by omega), e1, hq, B_size, if_pos (show acc.length + q.length ≤ 9223372036854775807 by omega), B_append]
      exact he
    · exact ⟨acc, by omega, fin i acc h⟩
def smallP : List ByteArray := [(⟨#[72, 111, 115, 116]⟩ : ByteArray), (⟨#[58]⟩ : ByteArray), (⟨#[32]⟩ : ByteArray), (⟨#[97]⟩ : ByteArray), (⟨#[13, 10]⟩ : ByteArray), (⟨#[13, 10]⟩ : ByteArray), (⟨#[88, 58, 32, 121, 13, 10]⟩ : ByteArray), (⟨#[13, 10, 13, 10]⟩ : ByteArray), (⟨#[9]⟩ : ByteArray), (⟨#[98, 58, 99, 13, 10]⟩ : ByteArray), (⟨#[195, 169]⟩ : ByteArray), (⟨#[13]⟩ : ByteArray), (⟨#[10]⟩ : ByteArray), (⟨#[40]⟩ : ByteArray), (⟨#[122]⟩ : ByteArray), (⟨#[1]⟩ : ByteArray)]
theorem pieces_ev (l : List Int) (hw : ∀ x ∈ l, (Lit.int .u8 x).wf = true) : ∃ r : Bs, r.length ≤ 96 ∧ Ev (fun k => broadsheetlaw05_Pieces.f k l smallP) (B r) := by
  have hp : ∀ j, j < smallP.length → (smallP.getD j ByteArray.empty).size ≤ 8 := by decide
  obtain ⟨r, hr, he⟩ := pieces_l0 l smallP hw (by decide) (by decide) hp 12 0 [] (by omega) (by omega) (by simp)
  exact ⟨r, hr, by unfold broadsheetlaw05_Pieces.f; exact he⟩
theorem FieldSmall : broadsheetlaw18_FieldSmall.Pure := by
  intro l0 _ _ hw
  obtain ⟨s, hs, hp⟩ := pieces_ev l0 hw
  refine Ev.rounds (g := fun k => broadsheetlaw18_FieldSmall.f k l0) ?_
  unfold broadsheetlaw18_FieldSmall.f
  have hl := parseV_len s
  refine Ev.bind hp ?_
  rw [gparse s (by omega)]
  refine Ev.some_bind (Ev.bind (rparse_ev s (by omega)) (Ev.bind awake18 (Ev.ite_pos rfl (Ev.bind (same49_ev _ (by omega)) (Ev.ite_pos rfl (Ev.ite_pos rfl ?_))))))
  rw [beq_self_eq_true]
  exact Ev.now _
end Go.Proofs.YtodhbldnmepmaaaDoor.Pure
