/- Plain law: few names and spaces (PrefixSmall). -/
import Derived.Test.YtidjihhklmfaiaaDoorV7
import Derived.Test.YtidjihhklmfaiaaDoorPx9
import Derived.DataShut
namespace Go.Proofs.YtidjihhklmfaiaaDoor.Pure
set_option linter.unusedSimpArgs false
open Go.RowKit Go.Lib Go.Proofs.YtidjihhklmfaiaaDoorW.PrintWords Go.Proofs.YtidjihhklmfaiaaDoor.X Go.Proofs.YtidjihhklmfaiaaDoor.Px Go.Proofs.YtidjihhklmfaiaaDoor.U Go.Proofs.YtidjihhklmfaiaaDoor.V

theorem px_u8_at {l : List Int} (hw : ∀ x ∈ l, (Lit.int .u8 x).wf = true) (i : Nat) (h : i < l.length) : 0 ≤ rd l (i : Int) ∧ rd l (i : Int) ≤ 255 := by
  rw [rd_nat, List.getD_eq_getElem?_getD, List.getElem?_eq_getElem h]
  exact (Lit.wf_int_iff .u8 _).1 (hw _ (List.getElem_mem h))
theorem px_piece (ps : List ByteArray) (hn : 0 < ps.length) (hm : ps.length ≤ 255) (hp : ∀ j, j < ps.length → (ps.getD j ByteArray.empty).size ≤ 300) (v : Int) (v0 : 0 ≤ v) (v1 : v ≤ 255) :
    ∃ (j : Nat) (q : Bs), Int.tmod (wrap64 v) (ps.length : Int) = (j : Int) ∧ j < ps.length ∧ rdOf ByteArray.empty ps (j : Int) = B q ∧ q.length ≤ 300 := by
  have e0 : wrap64 v = v := w64 (by omega) (by omega)
  rw [e0]
  have m0 : 0 ≤ Int.tmod v (ps.length : Int) := Int.tmod_nonneg _ v0
  have m1 : Int.tmod v (ps.length : Int) < (ps.length : Int) := Int.tmod_lt_of_pos _ (by omega)
  obtain ⟨j, hj⟩ : ∃ j : Nat, Int.tmod v (ps.length : Int) = j := ⟨_, (Int.toNat_of_nonneg m0).symm⟩
  have hjl : j < ps.length := by rw [hj] at m1; omega
  obtain ⟨q, hq⟩ := B_eta (ps.getD j ByteArray.empty)
  refine ⟨j, q, hj, hjl, ?_, ?_⟩
  · show ps.getD (j : Int).toNat ByteArray.empty = B q
    rw [Int.toNat_natCast]
    exact hq
  · have := hp j hjl
    rw [hq, B_size] at this
    exact this
theorem small_j1 (ns : List ByteArray) (hn : 0 < ns.length) (hm : ns.length ≤ 255) (hp : ∀ j, j < ns.length → (ns.getD j ByteArray.empty).size ≤ 300) (a : Int) (a0 : 0 ≤ a) (a1 : a ≤ 255) (attr : Bool) (acc : List S30) (hl : acc.length ≤ 100) (hacc : ∀ x ∈ acc, x.f0.size ≤ 300) :
    Ev (fun k => broadsheetlaw08_PrefixSmall.j1 k a attr ns acc) true := by
  have hacc' : ∀ x ∈ acc, x.f0.size < 4294967281 := fun x hx => by have := hacc x hx; omega
  obtain ⟨j, q, hj, hjl, hq, hql⟩ := px_piece ns hn hm hp a a0 a1
  have hlen := declV_len acc [] []
  simp only [List.length_nil, Nat.zero_add] at hlen
  refine Ev.step (fun k => (show broadsheetlaw08_PrefixSmall.j1 (k + 1) a attr ns acc = _ from by rw [broadsheetlaw08_PrefixSmall.j1])) ?_
  refine Ev.bind (gdecl_ev acc (by omega) hacc') ?_
  refine Ev.bind (rdecl_ev acc (by omega) hacc') ?_
  simp only [if_neg (show ¬ (ns.length : Int) = 0 by omega), hj, if_pos (show (0 : Int) ≤ (j : Int) by omega), if_pos (show (j : Int) < (ns.length : Int) by omega), hq]
  refine Ev.bind (gresolve_ev _ (by omega) q (by omega) attr) ?_
  refine Ev.bind (rresolve_ev _ (by omega) q (by omega) attr) ?_
  refine Ev.bind awake08 ?_
  simp only [if_true]
  refine Ev.bind (same_ev _ (by omega)) ?_
  simp only [if_true]
  refine Ev.bind (same_ev _ (by omega)) ?_
  simp only [if_true, beq_self_eq_true]
  exact Ev.now _
theorem small_l0 (l : List Int) (hw : ∀ x ∈ l, (Lit.int .u8 x).wf = true) (ns ss : List ByteArray) (hn : 0 < ns.length) (hm : ns.length ≤ 255) (hp : ∀ j, j < ns.length → (ns.getD j ByteArray.empty).size ≤ 300) (sn : 0 < ss.length) (sm : ss.length ≤ 255) (sp : ∀ j, j < ss.length → (ss.getD j ByteArray.empty).size ≤ 300)
    (a : Int) (a0 : 0 ≤ a) (a1 : a ≤ 255) (attr : Bool) : ∀ (d i : Nat) (acc : List S30), 12 - i ≤ d → i ≤ 12 → acc.length ≤ i → (∀ x ∈ acc, x.f0.size ≤ 300) → Ev (fun k => broadsheetlaw08_PrefixSmall.l0 k l a attr ns ss acc (i : Int)) true := by
  have fin : ∀ (i : Nat) (acc : List S30), ¬ (i < l.length ∧ i < 12) → acc.length ≤ 12 → (∀ x ∈ acc, x.f0.size ≤ 300) → Ev (fun k => broadsheetlaw08_PrefixSmall.l0 k l a attr ns ss acc (i : Int)) true := by
    intro i acc h hl hacc
    refine Ev.step (fun k => (show broadsheetlaw08_PrefixSmall.l0 (k + 1) l a attr ns ss acc i = _ from by rw [broadsheetlaw08_PrefixSmall.l0])) ?_
    by_cases h1 : i < l.length
    · simp only [if_pos (show (i : Int) < (l.length : Int) by omega), if_neg (show ¬ (i : Int) < 12 by omega)]
      exact small_j1 ns hn hm hp a a0 a1 attr acc (by omega) hacc
    · simp only [if_neg (show ¬ (i : Int) < (l.length : Int) by omega)]
      exact small_j1 ns hn hm hp a a0 a1 attr acc (by omega) hacc
  intro d
  induction d with
  | zero => intro i acc hd hi hl hacc; exact fin i acc (by omega) (by omega) hacc
  | succ d ih =>
    intro i acc hd hi hl hacc
    by_cases h : i < l.length ∧ i < 12
    · obtain ⟨u0, u1⟩ := px_u8_at hw i h.1
      have e1 : wrap64 ((i : Int) + 1) = ((i + 1 : Nat) : Int) := by rw [w64 (by omega) (by omega)]; rfl
      obtain ⟨j, q, hj, hjl, hq, hql⟩ := px_piece ns hn hm hp _ u0 u1
      obtain ⟨y0, y1⟩ : 0 ≤ IntKind.u8.wrap (Int.tdiv (rd l (i : Int)) 16) ∧ IntKind.u8.wrap (Int.tdiv (rd l (i : Int)) 16) ≤ 255 := wrap_within .u8 _
      obtain ⟨j2, q2, hj2, hjl2, hq2, hql2⟩ := px_piece ss sn sm sp _ y0 y1
      refine Ev.step (fun k => (show broadsheetlaw08_PrefixSmall.l0 (k + 1) l a attr ns ss acc i = _ from by rw [broadsheetlaw08_PrefixSmall.l0])) ?_
      simp only [if_pos (show (i : Int) < (l.length : Int) by omega), if_pos (show (i : Int) < 12 by omega), if_pos (show (0 : Int) ≤ (i : Int) by omega), hj, if_neg (show ¬ (ns.length : Int) = 0 by omega), if_pos (show (0 : Int) ≤ (j : Int) by omega), if_pos (show (j : Int) < (ns.length : Int) by omega), e1, hq, hj2, if_neg (show ¬ (ss.length : Int) = 0 by omega), if_pos (show (0 : Int) ≤ (j2 : Int) by omega), if_pos (show (j2 : Int) < (ss.length : Int) by omega), hq2, if_pos (show acc.length < 4398046511104 by omega)]
      refine ih (i + 1) (acc ++ [⟨B q, B q2⟩]) (by omega) (by omega) (by simp; omega) ?_
      intro x hx
      rcases List.mem_append.1 hx with hx | hx
      · exact hacc x hx
      · simp only [List.mem_singleton] at hx
        rw [hx]
        show (B q).size ≤ 300
        rw [B_size]
        exact hql
    · exact fin i acc h (by omega) hacc
theorem PrefixSmall : broadsheetlaw08_PrefixSmall.Pure := by
  intro l a attr _ _ hw ha
  refine Ev.rounds (g := fun k => broadsheetlaw08_PrefixSmall.f k l a attr) ?_
  unfold broadsheetlaw08_PrefixSmall.f
  obtain ⟨a0, a1⟩ := (Lit.wf_int_iff .u8 _).1 ha
  exact small_l0 l hw _ _ (by decide) (by decide) (by decide) (by decide) (by decide) (by decide) a a0 a1 attr 12 0 [] (by omega) (by omega) (by simp) (by simp)
end Go.Proofs.YtidjihhklmfaiaaDoor.Pure
