/- MediaSmall: the walk's premises hold of every text laid together out of few pieces. -/
import Derived.Test.YtdecjlkfpbgkgaaGreatDoorXLSmall
import Derived.Test.YtdecjlkfpbgkgaaGreatDoorF5
import Derived.Test.YtdecjlkfpbgkgaaGreatDoorF6
import Derived.DataShut
namespace Go.Proofs.YtdecjlkfpbgkgaaGreatDoor.Pq
open Go.RowKit Go.Lib Go.Proofs.YtdecjlkfpbgkgaaGreatDoorW.PrintWords Go.Proofs.YtdecjlkfpbgkgaaGreatDoor.Pm
open Go.Proofs.YtdecjlkfpbgkgaaGreatDoor.U
set_option linter.unusedSimpArgs false
theorem rd_nat (l : List Int) (i : Nat) : rd l (i : Int) = l.getD i 0 := by simp [rd]
theorem u8_at {l : List Int} (hw : ∀ x ∈ l, (Lit.int .u8 x).wf = true) (i : Nat) (h : i < l.length) : 0 ≤ rd l (i : Int) ∧ rd l (i : Int) ≤ 255 := by
  rw [rd_nat, List.getD_eq_getElem?_getD, List.getElem?_eq_getElem h]
  exact (Lit.wf_int_iff .u8 _).1 (hw _ (List.getElem_mem h))
theorem piece_at (l : List Int) (ps : List ByteArray) (hw : ∀ x ∈ l, (Lit.int .u8 x).wf = true) (hn : 0 < ps.length) (hm : ps.length ≤ 255) (hp : ∀ j, j < ps.length → (ps.getD j ByteArray.empty).size ≤ 9) (i : Nat) (h : i < l.length) :
    ∃ (j : Nat) (q : Bs), Int.tmod (wrap64 (rd l (i : Int))) (ps.length : Int) = (j : Int) ∧ j < ps.length ∧ rdOf ByteArray.empty ps (j : Int) = B q ∧ q.length ≤ 9 := by
  obtain ⟨u0, u1⟩ := u8_at hw i h
  have e0 : wrap64 (rd l (i : Int)) = rd l (i : Int) := w64 (by omega) (by omega)
  rw [e0]
  have m0 : 0 ≤ Int.tmod (rd l (i : Int)) (ps.length : Int) := Int.tmod_nonneg _ u0
  have m1 : Int.tmod (rd l (i : Int)) (ps.length : Int) < (ps.length : Int) := Int.tmod_lt_of_pos _ (by omega)
  obtain ⟨j, hj⟩ : ∃ j : Nat, Int.tmod (rd l (i : Int)) (ps.length : Int) = j := ⟨_, (Int.toNat_of_nonneg m0).symm⟩
  have hjl : j < ps.length := by rw [hj] at m1; omega
  obtain ⟨q, hq⟩ := B_eta (ps.getD j ByteArray.empty)
  refine ⟨j, q, hj, hjl, ?_, ?_⟩
  · show ps.getD (j : Int).toNat ByteArray.empty = B q
    rw [Int.toNat_natCast]
    exact hq
  · have := hp j hjl
    rw [hq, B_size] at this
    exact this
theorem pieces_l0 (l : List Int) (ps : List ByteArray) (hw : ∀ x ∈ l, (Lit.int .u8 x).wf = true) (hn : 0 < ps.length) (hm : ps.length ≤ 255) (hp : ∀ j, j < ps.length → (ps.getD j ByteArray.empty).size ≤ 9) :
    ∀ (d i : Nat) (acc : Bs), 12 - i ≤ d → i ≤ 12 → acc.length ≤ 9 * i → ∃ r : Bs, r.length ≤ 108 ∧ Ev (fun k => broadsheetlaw05_Pieces.l0 k l ps (B acc) (i : Int)) (B r) := by
  have fin : ∀ (i : Nat) (acc : Bs), ¬ (i < l.length ∧ i < 12) → Ev (fun k => broadsheetlaw05_Pieces.l0 k l ps (B acc) (i : Int)) (B acc) := by
    intro i acc h
    refine Ev.step (fun k => (show broadsheetlaw05_Pieces.l0 (k + 1) l ps (B acc) i = _ from by rw [broadsheetlaw05_Pieces.l0])) ?_
    by_cases h1 : i < l.length
    · simp only [if_pos (show (i : Int) < (l.length : Int) by omega), if_neg (show ¬ (i : Int) < 12 by omega)]
      exact Ev.now _
    · simp only [if_neg (show ¬ (i : Int) < (l.length : Int) by omega)]
      exact Ev.now _
  intro d
  induction d with
  | zero =>
    intro i acc hd hi ha
    exact ⟨acc, by omega, fin i acc (by omega)⟩
  | succ d ih =>
    intro i acc hd hi ha
    by_cases h : i < l.length ∧ i < 12
    · obtain ⟨j, q, hj, hjl, hq, hql⟩ := piece_at l ps hw hn hm hp i h.1
      have e1 : wrap64 ((i : Int) + 1) = ((i + 1 : Nat) : Int) := by rw [w64 (by omega) (by omega)]; rfl
      obtain ⟨r, hr, he⟩ := ih (i + 1) (acc ++ q) (by omega) (by omega) (by rw [List.length_append]; omega)
      refine ⟨r, hr, ?_⟩
      refine Ev.step (fun k => (show broadsheetlaw05_Pieces.l0 (k + 1) l ps (B acc) i = _ from by rw [broadsheetlaw05_Pieces.l0])) ?_
      simp only [if_pos (show (i : Int) < (l.length : Int) by omega), if_pos (show (i : Int) < 12 by omega), if_pos (show (0 : Int) ≤ (i : Int) by omega), hj, if_neg (show ¬ (ps.length : Int) = 0 by omega), if_pos (show (0 : Int) ≤ (j : Int) by omega), if_pos (show (j : Int) < (ps.length : Int) by omega), e1, hq, B_size, if_pos (show acc.length + q.length ≤ 9223372036854775807 by omega), B_append]
      exact he
    · exact ⟨acc, by omega, fin i acc h⟩
theorem pieces_ev (l : List Int) (hw : ∀ x ∈ l, (Lit.int .u8 x).wf = true) : ∃ r : Bs, r.length ≤ 108 ∧ Ev (fun k => broadsheetlaw05_Pieces.f k l X.smallP) (B r) := by
  have hp : ∀ j, j < X.smallP.length → (X.smallP.getD j ByteArray.empty).size ≤ 9 := by decide
  obtain ⟨r, hr, he⟩ := pieces_l0 l X.smallP hw (by decide) (by decide) hp 12 0 [] (by omega) (by omega) (by simp)
  exact ⟨r, hr, by unfold broadsheetlaw05_Pieces.f; exact he⟩
theorem same_ev (t u : ByteArray) (l : List S38) (hl : l.length ≤ 4611686018427387904) : Ev (fun k => broadsheetref13_Same.f k t u l t u l) true := by
  unfold broadsheetref13_Same.f
  exact Ev.ite_pos rfl (Ev.ite_pos rfl (Ev.bind (F.same38_ev _ hl) (Ev.now _)))
def FS (_ : Nat) (l0 l1 : List Int) : Option Bool := if (∀ x ∈ l0, (Lit.int .u8 x).wf = true) ∧ (∀ x ∈ l1, (Lit.int .u8 x).wf = true) then some true else none
theorem tot_parse (s : Bs) : X.tot (X.parseV s).2.2.1 + (X.parseV s).1.size + (X.parseV s).2.1.size ≤ 2 * s.length := by
  rcases F.parse_good s with h | ⟨_, _, h⟩
  · rw [h]
    exact Nat.zero_le _
  · exact h
theorem broadsheetlaw13_MediaSmall.calls (k : Nat) (A0 : Option Addr) (c0 : Nat) (l0 : List Int) (A1 : Option Addr) (c1 : Nat) (l1 : List Int) (r : Bool) (w : World) (hr0 : Kd.C (Kd.int .u8) w A0 l0.length l0) (hc0 : l0.length ≤ c0) (hr1 : Kd.C (Kd.int .u8) w A1 l1.length l1) (hc1 : l1.length ≤ c1) (h : FS k l0 l1 = some r) :
    Calls Tryz.prog 8 #[.slice A0 l0.length c0, .slice A1 l1.length c1] w fun e w' => e = .returned (.bool r) ∧ Below w.heap.size w w' := by
  unfold FS at h
  split at h
  · rename_i hw
    obtain rfl := Option.some.inj h
    obtain ⟨s, hs, q1⟩ := pieces_ev l0 hw.1
    obtain ⟨t, ht, q2⟩ := pieces_ev l1 hw.2
    obtain ⟨k0, e0⟩ := Ev.rounds q1
    obtain ⟨k1, e1⟩ := Ev.rounds q2
    have g1 := F.gparse s (by omega)
    obtain ⟨k2, e2⟩ := Ev.rounds (F.rparse_ev s (by omega))
    obtain ⟨k3, e3⟩ := Ev.rounds (F.rparse_ev t (by omega))
    have ls := F.parse_len s
    have lt := F.parse_len t
    have vs := F.parse_lt s (by omega)
    have vt := F.parse_lt t (by omega)
    have hts := tot_parse s
    generalize X.parseV s = p at g1 e2 ls vs hts
    generalize X.parseV t = q at e3 lt vt
    obtain ⟨a1, a2, al, e⟩ := p
    obtain ⟨x1, x2, xl, e'⟩ := q
    simp only at ls lt vs vt hts
    obtain ⟨k4, e4⟩ := Ev.rounds (F.rfits_ev a1 a2 al x1 x2 xl (by omega) (by omega) vs vt)
    obtain ⟨k5, e5⟩ := Ev.rounds (F.rprint_ev a1 a2 al (by omega) (by omega))
    obtain ⟨k6, e6⟩ := Ev.rounds (same_ev a1 a2 al (by omega))
    exact X.lsmall_calls k0 k1 k2 k3 k4 k5 k6 A0 c0 l0 A1 c1 l1 (B s) (B t) a1 a2 al e x1 x2 xl e' _ _ w hr0 hc0 hr1 hc1 e0 e1 g1 e2 e3 e6 (fun x hx => Nat.le_of_lt (vs x hx)) (fun x hx => Nat.le_of_lt (vt x hx)) rfl e4 (F.gprint a1 a2 al (by omega) (by omega)) e5
  · cases h
end Go.Proofs.YtdecjlkfpbgkgaaGreatDoor.Pq
namespace Go.Proofs.YtdecjlkfpbgkgaaGreatDoor.Pure
theorem MediaSmall (l0 l1 : List Int) (h0 : ∀ x ∈ l0, (Lit.int .u8 x).wf = true) (h1 : ∀ x ∈ l1, (Lit.int .u8 x).wf = true) : ∃ k, Pq.FS k l0 l1 = some true := ⟨0, if_pos ⟨h0, h1⟩⟩
end Go.Proofs.YtdecjlkfpbgkgaaGreatDoor.Pure
