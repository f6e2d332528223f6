/- Plain law: something is done upon a match just if a strong tag of it is the one that is there, or it is a star, and something is there (ETagMatches). -/
import Derived.Test.YtodhbldnmepmaaaDoorPureBack
import Derived.Test.YtodhbldnmepmaaaDoorPe7
namespace Go.Proofs.YtodhbldnmepmaaaDoor.Pure
open Go.RowKit Go.Lib Go.Proofs.YtodhbldnmepmaaaDoorW.PrintWords Go.Proofs.YtodhbldnmepmaaaDoor.X Go.Proofs.YtodhbldnmepmaaaDoor.Pe Go.Proofs.YtodhbldnmepmaaaDoor.T
open Go.Proofs.YtodhbldnmepmaaaDoor.U hiding Bs
set_option linter.unusedSimpArgs false

/-- The tags' texts, each with a comma and a blank behind it. -/
def flat : List S24 → Bs
  | [] => []
  | x :: r => printL x.f0 (L x.f1) ++ (44 :: 32 :: flat r)
theorem flat_snoc (l : List S24) (x : S24) : flat (l ++ [x]) = flat l ++ (printL x.f0 (L x.f1) ++ [44, 32]) := by
  induction l with
  | nil => simp [flat]
  | cons y r ih => simp [flat, ih]
theorem skip_flat (l : List S24) : skipL (flat l) = flat l := by
  cases l with
  | nil => rfl
  | cons x r => rw [flat, skip_print]
theorem strip_flat (l : List S24) : strip (flat l) = flat l := by
  cases l with
  | nil => rfl
  | cons x r => rw [flat, strip_print]
theorem refN_flat : ∀ (xs : List S24) (f : Nat) (s : Bs) (acc : List S24), s.length < f → (flat xs).length < f → strip s = flat xs → (∀ x ∈ xs, innerB (L x.f1) = true) → refN f s acc = endR (acc ++ xs) := by
  intro xs
  induction xs with
  | nil =>
    intro f s acc hf _ hs _
    cases f with
    | zero => omega
    | succ f => rw [refN_end f s acc hs, List.append_nil]
  | cons x r ih =>
    intro f s acc hf hf2 hs hi
    cases f with
    | zero => omega
    | succ f =>
      have k1 : skipL (44 :: 32 :: flat r) = 44 :: 32 :: flat r := by rw [skip_cons, if_neg (by decide)]
      have hlen : (44 :: 32 :: flat r : Bs).length < f := by
        rw [flat, List.length_append] at hf2
        have : 2 ≤ (printL x.f0 (L x.f1)).length := by unfold printL; cases x.f0 <;> simp <;> omega
        omega
      rw [refN_print f s acc x.f0 (L x.f1) (44 :: 32 :: flat r) (hi x (List.mem_cons_self ..)) (by rw [hs, flat]) (.inr (by rw [k1]; rfl)), k1]
      rw [ih f (44 :: 32 :: flat r) _ hlen (by simp only [List.length_cons] at hlen; omega) (by rw [strip_comma, skip_cons, if_pos (.inl rfl), skip_flat, strip_flat]) (fun y hy => hi y (List.mem_cons_of_mem _ hy))]
      rw [List.append_assoc]
      rfl
theorem list_flat (x : S24) (r : List S24) (hi : ∀ y ∈ x :: r, innerB (L y.f1) = true) : listV (flat (x :: r)) = (x :: r, false, 0) := by
  rw [listV_eq, skip_flat, if_neg (fun h => print_head _ _ _ h.1), refN_flat (x :: r) _ _ [] (by omega) (by omega) (strip_flat _) hi]
  rfl

def okT (x : S24) : Bool := innerB (L x.f1) && decide ((printL x.f0 (L x.f1)).length ≤ 100)
theorem may_star (t : S24) (there : Bool) : mayV [42] [] t there false = if there = true then 0 else 412 := by
  have h : listV [42] = ([], true, 0) := by
    rw [listV_eq]
    rfl
  unfold mayV
  rw [if_neg (by simp), h]
  cases there with
  | true => rfl
  | false => rfl
theorem may_nothing (t : S24) (there get : Bool) : mayV [] [] t there get = 0 := rfl
theorem may_flat (l : List S24) (hne : l ≠ []) (hi : ∀ y ∈ l, innerB (L y.f1) = true) (w : Bool) (v : ByteArray) (there : Bool) : mayV (flat l) [] ⟨w, v⟩ there false = if (l.any (hitT w v false) && there) = true then 0 else 412 := by
  cases l with
  | nil => exact absurd rfl hne
  | cons x r =>
    unfold mayV
    rw [if_neg (by rw [flat]; exact print_ne _ _ _), list_flat x r hi]
    simp only [if_true]
    unfold hasV
    cases there with
    | false => simp
    | true =>
      simp only [Bool.true_eq_false, Bool.false_eq_true, if_false, Bool.and_true]
      rw [any_sameS]
      rfl

theorem j2_ev (is there : Bool) (s : Bs) (hs : s.length < 4000000000) (n : Nat) (w : Bool) (v : ByteArray) (hm : n ≠ 0 → mayV s [] ⟨w, v⟩ there false = if (is && there) = true then 0 else 412) :
    Ev (fun k => broadsheetlaw17_ETagMatches.j1 k there true (B s) (n : Int) 412 (is && there) w v) true := by
  refine Ev.step (fun k => (show broadsheetlaw17_ETagMatches.j1 (k + 1) there true (B s) (n : Int) 412 (is && there) w v = _ from by rw [broadsheetlaw17_ETagMatches.j1])) ?_
  have e1 : (⟨#[42]⟩ : ByteArray) = B [42] := rfl
  have e2 : (⟨#[]⟩ : ByteArray) = B [] := rfl
  have m1 := gmay_ev [42] [] (by decide) (by decide) w v there false
  have m2 := gmay_ev [] [] (by decide) (by decide) w v there true
  rw [may_star] at m1
  rw [may_nothing] at m2
  have key : ∀ (want : Int), (n ≠ 0 → mayV s [] ⟨w, v⟩ there false = want) → Ev (fun k => broadsheetlaw17_ETagMatches.j2 k there true (B s) (n : Int) want w v) true := by
    intro want hw
    refine Ev.step (fun k => (show broadsheetlaw17_ETagMatches.j2 (k + 1) there true (B s) (n : Int) want w v = _ from by rw [broadsheetlaw17_ETagMatches.j2])) ?_
    have m0 := gmay_ev s [] hs (by decide) w v there false
    cases there with
    | true =>
      simp only [if_true, e1, e2] at m1 m2 ⊢
      have tail : Ev (fun k => (etag_May.f k (B [42]) (B []) w v true false).bind fun t211 => (if t211 = 0 then ((etag_May.f k (B []) (B []) w v true true).bind fun t212 => (some (t212 == 0))) else (some false))) true := by
        refine Ev.bind m1 ?_
        simp only [if_true]
        exact Ev.bind m2 (Ev.now _)
      by_cases hn : n = 0
      · simp only [if_pos (show (n : Int) = 0 by omega)]
        exact tail
      · simp only [if_neg (show ¬ (n : Int) = 0 by omega)]
        refine Ev.bind m0 ?_
        simp only [if_pos (hw hn)]
        exact tail
    | false =>
      simp only [Bool.false_eq_true, if_false, if_true, e1, e2] at m1 m2 ⊢
      have tail : Ev (fun k => (etag_May.f k (B [42]) (B []) w v false false).bind fun t211 => (if t211 = 412 then ((etag_May.f k (B []) (B []) w v false true).bind fun t212 => (some (t212 == 0))) else (some false))) true := by
        refine Ev.bind m1 ?_
        simp only [if_true]
        exact Ev.bind m2 (Ev.now _)
      by_cases hn : n = 0
      · simp only [if_pos (show (n : Int) = 0 by omega)]
        exact tail
      · simp only [if_neg (show ¬ (n : Int) = 0 by omega)]
        refine Ev.bind m0 ?_
        simp only [if_pos (hw hn)]
        exact tail
  cases hq : is && there with
  | true =>
    rw [hq] at hm
    simp only [if_true] at hm ⊢
    exact key 0 hm
  | false =>
    rw [hq] at hm
    simp only [Bool.false_eq_true, if_false] at hm ⊢
    exact key 412 hm

theorem m_l0 (l : List S24) (hl : l.length ≤ 20) (hb : ∀ y ∈ l, y.f1.size ≤ 140737488351232) (there w : Bool) (v : ByteArray) : ∀ (d i : Nat) (q : List S24), l.length - i ≤ d → i ≤ l.length → q.length ≤ i → (flat q).length ≤ 102 * q.length → (∀ y ∈ q, innerB (L y.f1) = true) →
    Ev (fun k => broadsheetlaw17_ETagMatches.l0 k l there true (B (flat q)) (q.any (hitT w v false)) (q.length : Int) (i : Int) w v) true := by
  have fin : ∀ (i : Nat) (q : List S24), i = l.length → q.length ≤ i → (flat q).length ≤ 102 * q.length → (∀ y ∈ q, innerB (L y.f1) = true) →
      Ev (fun k => broadsheetlaw17_ETagMatches.l0 k l there true (B (flat q)) (q.any (hitT w v false)) (q.length : Int) (i : Int) w v) true := by
    intro i q hi hqi hfl hin
    refine Ev.step (fun k => (show broadsheetlaw17_ETagMatches.l0 (k + 1) l there true (B (flat q)) (q.any (hitT w v false)) (q.length : Int) i w v = _ from by rw [broadsheetlaw17_ETagMatches.l0])) ?_
    have := j2_ev (q.any (hitT w v false)) there (flat q) (by omega) q.length w v (fun hn => may_flat q (fun h => hn (by rw [h]; rfl)) hin w v there)
    simp only [if_neg (show ¬ (i : Int) < (l.length : Int) by omega)]
    cases hq : q.any (hitT w v false) with
    | true =>
      rw [hq, Bool.true_and] at this
      simp only [if_true]
      exact this
    | false =>
      rw [hq, Bool.false_and] at this
      simp only [Bool.false_eq_true, if_false]
      exact this
  intro d
  induction d with
  | zero => intro i q hd hi h1 h2 h3; exact fin i q (by omega) h1 h2 h3
  | succ d ih =>
    intro i q hd hi h1 h2 h3
    by_cases h : i < l.length
    · refine Ev.step (fun k => (show broadsheetlaw17_ETagMatches.l0 (k + 1) l there true (B (flat q)) (q.any (hitT w v false)) (q.length : Int) i w v = _ from by rw [broadsheetlaw17_ETagMatches.l0])) ?_
      have ew : wrap64 ((i : Int) + 1) = ((i + 1 : Nat) : Int) := by rw [w64 (by omega) (by omega)]; rfl
      have en : wrap64 ((q.length : Int) + 1) = ((q.length + 1 : Nat) : Int) := by rw [w64 (by omega) (by omega)]; rfl
      simp only [if_pos (show (i : Int) < (l.length : Int) by omega), if_pos (show (0 : Int) ≤ (i : Int) by omega), rd24 l i h, ew, en]
      have hbx := hb l[i] (List.getElem_mem h)
      generalize l[i] = x at hbx
      obtain ⟨f0, f1⟩ := x
      obtain ⟨u, rfl⟩ := B_eta f1
      rw [B_size] at hbx
      simp only [gprint f0 u (by omega), Option.bind_some]
      have same := ih (i + 1) q (by omega) (by omega) (by omega) h2 h3
      unfold printV
      cases hin : innerB u with
      | false =>
        simp only [Bool.false_eq_true, if_false, if_neg (show ¬ (170 : Int) = 0 by decide)]
        exact same
      | true =>
        simp only [if_true]
        by_cases h100 : (printL f0 u).length > 100
        · simp only [if_pos (show ((B (printL f0 u)).size : Int) > 100 by rw [B_size]; omega)]
          exact same
        · have e3 : (⟨#[44, 32]⟩ : ByteArray) = B [44, 32] := rfl
          have hfq : flat (q ++ [⟨f0, B u⟩]) = flat q ++ (printL f0 u ++ [44, 32]) := flat_snoc q ⟨f0, B u⟩
          have next := ih (i + 1) (q ++ [⟨f0, B u⟩]) (by omega) (by omega) (by simp; omega) (by rw [hfq]; simp; omega) (by
            intro y hy
            rcases List.mem_append.1 hy with hy | hy
            · exact h3 y hy
            · rw [List.mem_singleton] at hy
              rw [hy]
              exact hin)
          rw [hfq, List.any_append, List.length_append] at next
          simp only [List.any_cons, List.any_nil, Bool.or_false, List.length_singleton] at next
          have lt1 : (B (flat q)).size + (B (printL f0 u)).size ≤ 9223372036854775807 := by rw [B_size, B_size]; omega
          have lt2 : (B (flat q ++ printL f0 u)).size + 2 ≤ 9223372036854775807 := by rw [B_size, List.length_append]; omega
          simp only [if_neg (show ¬ ((B (printL f0 u)).size : Int) > 100 by rw [B_size]; omega), e3, B_append, if_pos lt1, if_pos lt2]
          rw [← List.append_assoc] at next
          cases hq : q.any (hitT w v false) with
          | true =>
            rw [hq, Bool.true_or] at next
            simp only [if_true]
            exact next
          | false =>
            rw [hq, Bool.false_or] at next
            simp only [Bool.false_eq_true, if_false]
            by_cases he : (B u).toList = v.toList
            · have hb2 : ((B u).toList == v.toList) = true := beq_iff_eq.2 he
              simp only [if_pos he]
              cases f0 with
              | true =>
                have e0 : hitT w v false ⟨true, B u⟩ = false := by simp [hitT]
                rw [e0] at next
                simp only [if_true]
                exact next
              | false =>
                have e0 : hitT w v false ⟨false, B u⟩ = !w := by simp only [hitT, hb2]; simp
                rw [e0] at next
                simp only [Bool.false_eq_true, if_false]
                exact next
            · have e0 : hitT w v false ⟨f0, B u⟩ = false := by
                simp only [hitT, beq_eq_false_iff_ne.2 he, Bool.false_and]
              rw [e0] at next
              simp only [if_neg he]
              exact next
    · exact fin i q (by omega) h1 h2 h3
theorem ETagMatches (l : List S24) (t : S24) (there : Bool) (hb : ∀ y ∈ l, y.f1.size ≤ 140737488351232) : ∃ k, broadsheetlaw17_ETagMatches.f k l t.f0 t.f1 there = some true := by
  obtain ⟨w, v⟩ := t
  refine Ev.rounds (g := fun k => broadsheetlaw17_ETagMatches.f k l w v there) ?_
  unfold broadsheetlaw17_ETagMatches.f
  refine Ev.bind awake17 ?_
  simp only [if_true]
  by_cases hl : l.length > 20
  · simp only [if_pos (show (l.length : Int) > 20 by omega)]
    exact Ev.now _
  · simp only [if_neg (show ¬ (l.length : Int) > 20 by omega)]
    exact m_l0 l (by omega) hb there w v l.length 0 [] (by omega) (by omega) (by simp) (by simp [flat]) (by simp)
end Go.Proofs.YtodhbldnmepmaaaDoor.Pure
