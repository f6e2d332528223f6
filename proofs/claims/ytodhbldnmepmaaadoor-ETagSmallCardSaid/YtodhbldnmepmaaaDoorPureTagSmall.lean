/- Plain law: lists of few pieces (ETagSmall). -/
import Derived.Test.YtodhbldnmepmaaaDoorT4
import Derived.Test.YtodhbldnmepmaaaDoorPe11
import Derived.DataShut
namespace Go.Proofs.YtodhbldnmepmaaaDoor.Pure
open Go.RowKit Go.Lib Go.Proofs.YtodhbldnmepmaaaDoorW.PrintWords Go.Proofs.YtodhbldnmepmaaaDoor.X Go.Proofs.YtodhbldnmepmaaaDoor.Pe Go.Proofs.YtodhbldnmepmaaaDoor.T
open Go.Proofs.YtodhbldnmepmaaaDoor.U hiding Bs
set_option linter.unusedSimpArgs false

theorem rd_nat (l : List Int) (i : Nat) : rd l (i : Int) = l.getD i 0 := by simp [rd]
theorem u8_at {l : List Int} (hw : ∀ x ∈ l, (Lit.int .u8 x).wf = true) (i : Nat) (h : i < l.length) : 0 ≤ rd l (i : Int) ∧ rd l (i : Int) ≤ 255 := by
  rw [rd_nat, List.getD_eq_getElem?_getD, List.getElem?_eq_getElem h]
  exact (Lit.wf_int_iff .u8 _).1 (hw _ (List.getElem_mem h))
theorem piece_at (l : List Int) (ps : List ByteArray) (hw : ∀ x ∈ l, (Lit.int .u8 x).wf = true) (hn : 0 < ps.length) (hm : ps.length ≤ 255) (hp : ∀ j, j < ps.length → (ps.getD j ByteArray.empty).size ≤ 8) (i : Nat) (h : i < l.length) :
    ∃ (j : Nat) (q : Bs), Int.tmod (wrap64 (rd l (i : Int))) (ps.length : Int) = (j : Int) ∧ j < ps.length ∧ rdOf ByteArray.empty ps (j : Int) = B q ∧ q.length ≤ 8 := by
  obtain ⟨u0, u1⟩ := u8_at hw i h
  have e0 : wrap64 (rd l (i : Int)) = rd l (i : Int) := w64 (by omega) (by omega)
  rw [e0]
  have m0 : 0 ≤ Int.tmod (rd l (i : Int)) (ps.length : Int) := Int.tmod_nonneg _ u0
  have m1 : Int.tmod (rd l (i : Int)) (ps.length : Int) < (ps.length : Int) := Int.tmod_lt_of_pos _ (by omega)
  obtain ⟨j, hj⟩ : ∃ j : Nat, Int.tmod (rd l (i : Int)) (ps.length : Int) = j := ⟨_, (Int.toNat_of_nonneg m0).symm⟩
  have hjl : j < ps.length := by rw [hj] at m1; omega
  obtain ⟨q, hq⟩ := B_eta (ps.getD j ByteArray.empty)
  refine ⟨j, q, hj, hjl, ?_, ?_⟩
  · show ps.getD (j : Int).toNat ByteArray.empty = B q
    rw [Int.toNat_natCast]
    exact hq
  · have := hp j hjl
    rw [hq, B_size] at this
    exact this
theorem pieces_l0 (l : List Int) (ps : List ByteArray) (hw : ∀ x ∈ l, (Lit.int .u8 x).wf = true) (hn : 0 < ps.length) (hm : ps.length ≤ 255) (hp : ∀ j, j < ps.length → (ps.getD j ByteArray.empty).size ≤ 8) :
    ∀ (d i : Nat) (acc : Bs), 12 - i ≤ d → i ≤ 12 → acc.length ≤ 8 * i → ∃ r : Bs, r.length ≤ 96 ∧ Ev (fun k => broadsheetlaw05_Pieces.l0 k l ps (B acc) (i : Int)) (B r) := by
  have fin : ∀ (i : Nat) (acc : Bs), ¬ (i < l.length ∧ i < 12) → Ev (fun k => broadsheetlaw05_Pieces.l0 k l ps (B acc) (i : Int)) (B acc) := by
    intro i acc h
    refine Ev.step (fun k => (show broadsheetlaw05_Pieces.l0 (k + 1) l ps (B acc) i = _ from by rw [broadsheetlaw05_Pieces.l0])) ?_
    by_cases h1 : i < l.length
    · simp only [if_pos (show (i : Int) < (l.length : Int) by omega), if_neg (show ¬ (i : Int) < 12 by omega)]
      exact Ev.now _
    · simp only [if_neg (show ¬ (i : Int) < (l.length : Int) by omega)]
      exact Ev.now _
  intro d
  induction d with
  | zero =>
    intro i acc hd hi ha
    exact ⟨acc, by omega, fin i acc (by omega)⟩
  | succ d ih =>
    intro i acc hd hi ha
    by_cases h : i < l.length ∧ i < 12
    · obtain ⟨j, q, hj, hjl, hq, hql⟩ := piece_at l ps hw hn hm hp i h.1
      have e1 : wrap64 ((i : Int) + 1) = ((i + 1 : Nat) : Int) := by rw [w64 (by omega) (by omega)]; rfl
      obtain ⟨r, hr, he⟩ := ih (i + 1) (acc ++ q) (by omega) (by omega) (by rw [List.length_append]; omega)
      refine ⟨r, hr, ?_⟩
      refine Ev.step (fun k => (show broadsheetlaw05_Pieces.l0 (k + 1) l ps (B acc) i = _ from by rw [broadsheetlaw05_Pieces.l0])) ?_
      simp only [if_pos (show (i : Int) < (l.length : Int) by omega), if_pos (show (i : Int) < 12 by omega), if_pos (show (0 : Int) ≤ (i : Int) by omega), hj, if_neg (show ¬ (ps.length : Int) = 0 by omega), if_pos (show (0 : Int) ≤ (j : Int) by omega), if_pos (show (j : Int) < (ps.length : Int) by omega), e1, hq, B_size, if_pos (show acc.length + q.length ≤ 9223372036854775807 by omega), B_append]
      exact he
    · exact ⟨acc, by omega, fin i acc h⟩
theorem small_j1 (s u : Bs) (hs : s.length ≤ 96) (hu : u.length ≤ 96) (w : Bool) (v : ByteArray) (there get : Bool) : Ev (fun k => broadsheetlaw17_ETagSmall.j1 k there get (B s) (B u) w v) true := by
  refine Ev.step (fun k => (show broadsheetlaw17_ETagSmall.j1 (k + 1) there get (B s) (B u) w v = _ from by rw [broadsheetlaw17_ETagSmall.j1])) ?_
  have hl := listV_len s
  simp only [glist s (by omega), Option.bind_some]
  refine Ev.bind (rlist_ev s (by omega)) ?_
  refine Ev.bind awake17 ?_
  simp only [if_true]
  refine Ev.bind (same_ev _ (by omega)) ?_
  simp only [if_true, beq_self_eq_true]
  refine Ev.bind (gmay_ev s u (by omega) (by omega) w v _ _) ?_
  refine Ev.bind (rmay_ev s u (by omega) (by omega) w v _ _) ?_
  simp only [beq_self_eq_true]
  exact Ev.now _
theorem small_j0 (s u : Bs) (hs : s.length ≤ 96) (hu : u.length ≤ 96) (w : Bool) (v : ByteArray) (there get q : Bool) : Ev (fun k => broadsheetlaw17_ETagSmall.j0 k there get (B s) (B u) q w v) true := by
  refine Ev.step (fun k => (show broadsheetlaw17_ETagSmall.j0 (k + 1) there get (B s) (B u) q w v = _ from by rw [broadsheetlaw17_ETagSmall.j0])) ?_
  cases q with
  | true =>
    simp only [if_true]
    exact small_j1 s u hs hu w _ there get
  | false =>
    simp only [Bool.false_eq_true, if_false]
    exact small_j1 s u hs hu w _ there get
theorem ETagSmall (l m : List Int) (t : S24) (there get : Bool) (hl : ∀ x ∈ l, (Lit.int .u8 x).wf = true) (hm : ∀ x ∈ m, (Lit.int .u8 x).wf = true) : ∃ k, broadsheetlaw17_ETagSmall.f k l m t.f0 t.f1 there get = some true := by
  obtain ⟨w, v⟩ := t
  refine Ev.rounds (g := fun k => broadsheetlaw17_ETagSmall.f k l m w v there get) ?_
  unfold broadsheetlaw17_ETagSmall.f broadsheetlaw05_Pieces.f
  simp only [Option.bind_some]
  obtain ⟨s, hs, he⟩ := pieces_l0 l [(⟨#[34, 97, 34]⟩ : ByteArray), (⟨#[34, 98, 34]⟩ : ByteArray), (⟨#[87, 47]⟩ : ByteArray), (⟨#[44]⟩ : ByteArray), (⟨#[32]⟩ : ByteArray), (⟨#[42]⟩ : ByteArray), (⟨#[34, 34]⟩ : ByteArray), (⟨#[120]⟩ : ByteArray), (⟨#[34, 49, 45, 49, 34]⟩ : ByteArray), (⟨#[44, 32]⟩ : ByteArray)] hl (by decide) (by decide) (by decide) 12 0 [] (by omega) (by omega) (by simp)
  obtain ⟨u, hu, he2⟩ := pieces_l0 m [(⟨#[34, 97, 34]⟩ : ByteArray), (⟨#[34, 98, 34]⟩ : ByteArray), (⟨#[87, 47]⟩ : ByteArray), (⟨#[44]⟩ : ByteArray), (⟨#[32]⟩ : ByteArray), (⟨#[42]⟩ : ByteArray), (⟨#[34, 34]⟩ : ByteArray), (⟨#[120]⟩ : ByteArray), (⟨#[34, 49, 45, 49, 34]⟩ : ByteArray), (⟨#[44, 32]⟩ : ByteArray)] hm (by decide) (by decide) (by decide) 12 0 [] (by omega) (by omega) (by simp)
  refine Ev.bind he ?_
  refine Ev.bind he2 ?_
  by_cases h : v.toList = ([97] : List UInt8)
  · simp only [if_pos h]
    exact small_j0 s u hs hu w v there get _
  · simp only [if_neg h]
    exact small_j0 s u hs hu w v there get _
end Go.Proofs.YtodhbldnmepmaaaDoor.Pure
