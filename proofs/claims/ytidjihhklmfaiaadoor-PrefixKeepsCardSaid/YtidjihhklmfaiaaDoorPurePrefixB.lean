/- Plain law: what attributes declare is what the document says (PrefixDeclares); names of other prefixes keep their space when pairs stand behind a scope (PrefixKeeps). -/
import Derived.Test.YtidjihhklmfaiaaDoorV7
import Derived.Test.YtidjihhklmfaiaaDoorPx7
namespace Go.Proofs.YtidjihhklmfaiaaDoor.Pure
set_option linter.unusedSimpArgs false
open Go.RowKit Go.Lib Go.Proofs.YtidjihhklmfaiaaDoorW.PrintWords Go.Proofs.YtidjihhklmfaiaaDoor.X Go.Proofs.YtidjihhklmfaiaaDoor.Px Go.Proofs.YtidjihhklmfaiaaDoor.U Go.Proofs.YtidjihhklmfaiaaDoor.V

theorem declares_l0 (l : List S30) (hl : l.length ≤ 100) : ∀ (d i : Nat), l.length - i ≤ d → i ≤ l.length → (∀ x ∈ l.take i, x.f0.size ≤ 300) → Ev (fun k => broadsheetlaw08_PrefixDeclares.l0 k l (i : Int)) true := by
  have fin : ∀ i : Nat, ¬ i < l.length → (∀ x ∈ l, x.f0.size ≤ 300) → Ev (fun k => broadsheetlaw08_PrefixDeclares.l0 k l (i : Int)) true := by
    intro i h hall
    have hn : ∀ x ∈ l, x.f0.size < 4294967281 := fun x hx => by have := hall x hx; omega
    have hlen := declV_len l [] []
    refine Ev.step (fun k => (show broadsheetlaw08_PrefixDeclares.l0 (k + 1) l i = _ from by rw [broadsheetlaw08_PrefixDeclares.l0])) ?_
    simp only [if_neg (show ¬ (i : Int) < (l.length : Int) by omega)]
    refine Ev.bind (gdecl_ev l (by omega) hn) ?_
    refine Ev.bind (rdecl_ev l (by omega) hn) ?_
    refine Ev.bind awake08 ?_
    simp only [if_true]
    simp only [List.length_nil, Nat.zero_add] at hlen
    refine Ev.bind (same_ev _ (by omega)) ?_
    simp only [if_true]
    refine Ev.bind (same_ev _ (by omega)) ?_
    simp only [if_true, beq_self_eq_true]
    exact Ev.now _
  intro d
  induction d with
  | zero =>
    intro i hd hi hall
    rw [List.take_of_length_le (by omega)] at hall
    exact fin i (by omega) hall
  | succ d ih =>
    intro i hd hi hall
    by_cases h : i < l.length
    · have e1 : wrap64 ((i : Int) + 1) = ((i + 1 : Nat) : Int) := by rw [w64 (by omega) (by omega)]; rfl
      refine Ev.step (fun k => (show broadsheetlaw08_PrefixDeclares.l0 (k + 1) l i = _ from by rw [broadsheetlaw08_PrefixDeclares.l0])) ?_
      simp only [if_pos (show (i : Int) < (l.length : Int) by omega), if_pos (show (0 : Int) ≤ (i : Int) by omega), rd30 l i h, e1]
      by_cases hx : l[i].f0.size > 300
      · simp only [if_pos (show (l[i].f0.size : Int) > 300 by omega)]
        exact Ev.bind awake08 (Ev.now _)
      · simp only [if_neg (show ¬ (l[i].f0.size : Int) > 300 by omega)]
        refine ih (i + 1) (by omega) (by omega) ?_
        intro x hx2
        rw [List.take_add_one, List.getElem?_eq_getElem h] at hx2
        rcases List.mem_append.1 hx2 with hx2 | hx2
        · exact hall x hx2
        · simp only [Option.toList_some, List.mem_singleton] at hx2
          rw [hx2]; omega
    · rw [List.take_of_length_le (by omega)] at hall
      exact fin i h hall
theorem PrefixDeclares (l : List S30) : ∃ k, broadsheetlaw08_PrefixDeclares.f k l = some true := by
  refine Ev.rounds (g := fun k => broadsheetlaw08_PrefixDeclares.f k l) ?_
  unfold broadsheetlaw08_PrefixDeclares.f
  by_cases hl : l.length > 100
  · simp only [if_pos (show (l.length : Int) > 100 by omega)]
    exact Ev.bind awake08 (Ev.now _)
  · simp only [if_neg (show ¬ (l.length : Int) > 100 by omega)]
    have := declares_l0 l (by omega) l.length 0 (by omega) (by omega) (by simp)
    exact this

/-- Pairs of other prefixes change nothing. -/
theorem space_keeps (l m : List S30) (p : Bs) (hm : ∀ x ∈ m, x.f0.toList ≠ p) : spaceV (l ++ m) p = spaceV l p := by
  have h : m.reverse.find? (hitV p) = none := by
    rw [List.find?_eq_none]
    intro x hx
    have := hm x (List.mem_reverse.1 hx)
    simp [hitV, this]
  unfold spaceV
  rw [List.reverse_append, List.find?_append, h]
  rfl
theorem resolve_keeps (l m : List S30) (s : Bs) (attr : Bool) (hm : ∀ x ∈ m, x.f0.toList ≠ (splitV s).1.toList) : resolveV (l ++ m) s attr = resolveV l s attr := by
  unfold resolveV
  rw [space_keeps l m _ hm]
theorem keeps_l0 (l m : List S30) (hl : l.length ≤ 100) (hm : m.length ≤ 100) (s : Bs) (hs : s.length ≤ 300) (attr : Bool) : ∀ (d i : Nat) (q : List S30), m.length - i ≤ d → i ≤ m.length → q.length ≤ i → (∀ x ∈ q, x.f0.toList ≠ (splitV s).1.toList) →
    Ev (fun k => broadsheetlaw08_PrefixKeeps.l0 k l m (B s) attr true (splitV s).1 (l ++ q) (i : Int)) true := by
  have fin : ∀ (i : Nat) (q : List S30), ¬ i < m.length → q.length ≤ 100 → (∀ x ∈ q, x.f0.toList ≠ (splitV s).1.toList) → Ev (fun k => broadsheetlaw08_PrefixKeeps.l0 k l m (B s) attr true (splitV s).1 (l ++ q) (i : Int)) true := by
    intro i q h hq hall
    refine Ev.step (fun k => (show broadsheetlaw08_PrefixKeeps.l0 (k + 1) l m (B s) attr true (splitV s).1 (l ++ q) i = _ from by rw [broadsheetlaw08_PrefixKeeps.l0])) ?_
    simp only [if_neg (show ¬ (i : Int) < (m.length : Int) by omega)]
    refine Ev.bind (gresolve_ev l (by omega) s (by omega) attr) ?_
    refine Ev.bind (gresolve_ev (l ++ q) (by rw [List.length_append]; omega) s (by omega) attr) ?_
    rw [resolve_keeps l q s attr hall]
    simp only [if_true, beq_self_eq_true]
    exact Ev.now _
  intro d
  induction d with
  | zero => intro i q hd hi hq hall; exact fin i q (by omega) (by omega) hall
  | succ d ih =>
    intro i q hd hi hq hall
    by_cases h : i < m.length
    · have e1 : wrap64 ((i : Int) + 1) = ((i + 1 : Nat) : Int) := by rw [w64 (by omega) (by omega)]; rfl
      refine Ev.step (fun k => (show broadsheetlaw08_PrefixKeeps.l0 (k + 1) l m (B s) attr true (splitV s).1 (l ++ q) i = _ from by rw [broadsheetlaw08_PrefixKeeps.l0])) ?_
      simp only [if_pos (show (i : Int) < (m.length : Int) by omega), if_pos (show (0 : Int) ≤ (i : Int) by omega), rd30 m i h, e1]
      by_cases hx : m[i].f0.toList = (splitV s).1.toList
      · simp only [if_pos hx]
        exact ih (i + 1) q (by omega) (by omega) (by omega) hall
      · simp only [if_neg hx, if_pos (show (l ++ q).length < 4398046511104 by rw [List.length_append]; omega), List.append_assoc]
        refine ih (i + 1) (q ++ [m[i]]) (by omega) (by omega) (by simp; omega) ?_
        intro x hx2
        rcases List.mem_append.1 hx2 with hx2 | hx2
        · exact hall x hx2
        · simp only [List.mem_singleton] at hx2
          rw [hx2]; exact hx
    · exact fin i q h (by omega) hall
theorem PrefixKeeps (l m : List S30) (a : ByteArray) (attr : Bool) : ∃ k, broadsheetlaw08_PrefixKeeps.f k l m a attr = some true := by
  obtain ⟨s, rfl⟩ := B_eta a
  refine Ev.rounds (g := fun k => broadsheetlaw08_PrefixKeeps.f k l m (B s) attr) ?_
  unfold broadsheetlaw08_PrefixKeeps.f
  refine Ev.bind awake08 ?_
  simp only [if_true]
  have out : Ev (fun k => broadsheetlaw08_PrefixKeeps.j0 k l m (B s) attr true true) true := by
    refine Ev.step (fun k => (show broadsheetlaw08_PrefixKeeps.j0 (k + 1) l m (B s) attr true true = _ from by rw [broadsheetlaw08_PrefixKeeps.j0])) ?_
    simp only [if_true]
    exact Ev.now _
  by_cases hl : l.length > 100
  · simp only [if_pos (show (l.length : Int) > 100 by omega)]; exact out
  · by_cases hm : m.length > 100
    · simp only [if_neg (show ¬ (l.length : Int) > 100 by omega), if_pos (show (m.length : Int) > 100 by omega)]; exact out
    · simp only [if_neg (show ¬ (l.length : Int) > 100 by omega), if_neg (show ¬ (m.length : Int) > 100 by omega)]
      by_cases hs : s.length > 300
      · simp only [decide_eq_true (show ((B s).size : Int) > 300 by rw [B_size]; omega)]; exact out
      · simp only [decide_eq_false (show ¬ ((B s).size : Int) > 300 by rw [B_size]; omega)]
        refine Ev.step (fun k => (show broadsheetlaw08_PrefixKeeps.j0 (k + 1) l m (B s) attr true false = _ from by rw [broadsheetlaw08_PrefixKeeps.j0])) ?_
        simp only [Bool.false_eq_true, if_false]
        refine Ev.bind (gsplit_ev s (by omega)) ?_
        by_cases he : (splitV s).2.2 = 0
        · simp only [if_pos he, List.length_nil, Nat.zero_add, List.nil_append, if_pos (show l.length < 4398046511104 by omega)]
          have := keeps_l0 l m (by omega) (by omega) s (by omega) attr m.length 0 [] (by omega) (by omega) (by simp) (by simp)
          rw [List.append_nil] at this
          exact this
        · simp only [if_neg he]; exact Ev.now _
end Go.Proofs.YtidjihhklmfaiaaDoor.Pure
