/- Plain law of fields: the reference's Parse is the program's; lists of pairs that are the same; 'awake'; FieldParses. -/
import Derived.Test.YtodhbldnmepmaaaDoorF2
namespace Go.Proofs.YtodhbldnmepmaaaDoor.F
open Go.Proofs.YtodhbldnmepmaaaDoor.T (cut_one)
open Go.RowKit Go.Lib Go.Proofs.YtodhbldnmepmaaaDoorW.PrintWords Go.Proofs.YtodhbldnmepmaaaDoor.X Go.Proofs.YtodhbldnmepmaaaDoor.Pf Go.Proofs.YtodhbldnmepmaaaDoor.U
set_option linter.unusedSimpArgs false
theorem tok58 : tokB 58 = false := by decide
theorem tw_tok (l : Bs) : ∀ c ∈ l.takeWhile tokB, tokB c = true := fun c h => by
  have := List.all_takeWhile (p := tokB) (l := l)
  exact List.all_eq_true.1 this c h
/-- A text that starts with bytes of a token and then a colon. -/
theorem colon_tw (p : UInt8 → Bool) (a b : Bs) (ha : ∀ c ∈ a, p c = true) (h : p 58 = false) : (a ++ 58 :: b).takeWhile p = a ∧ (a ++ 58 :: b).dropWhile p = 58 :: b := by
  rw [List.takeWhile_append_of_pos ha, List.dropWhile_append_of_pos ha, List.takeWhile_cons, List.dropWhile_cons, h]
  simp
theorem tok_self (a : Bs) (ha : ∀ c ∈ a, tokB c = true) (hn : a ≠ []) : fieldTok a = true := by
  unfold fieldTok
  have h1 := List.takeWhile_append_of_pos ha (l₂ := [])
  have h2 := List.dropWhile_append_of_pos ha (l₂ := [])
  simp only [List.append_nil, List.takeWhile_nil, List.dropWhile_nil] at h1 h2
  rw [h1, h2]
  cases a with
  | nil => exact absurd rfl hn
  | cons c t => rfl
theorem tok_all (a : Bs) (h : fieldTok a = true) : (∀ c ∈ a, tokB c = true) ∧ a ≠ [] := by
  unfold fieldTok at h
  rw [Bool.and_eq_true] at h
  have h2 : a.dropWhile tokB = [] := List.isEmpty_iff.1 h.2
  refine ⟨?_, ?_⟩
  · have e := List.takeWhile_append_dropWhile (p := tokB) (l := a)
    rw [h2, List.append_nil] at e
    rw [← e]
    exact tw_tok a
  · rintro rfl
    cases h.1
theorem pair_yes (l u : Bs) (hd : l.dropWhile tokB = 58 :: u) (hn : l.takeWhile tokB ≠ []) : pairV l = (small (l.takeWhile tokB), trimS u [32, 9], valB (trimS u [32, 9])) := by
  have e : l = l.takeWhile tokB ++ 58 :: u := by rw [← hd, List.takeWhile_append_dropWhile]
  have hc : ∀ c ∈ l.takeWhile tokB, (c != 58) = true := fun c hc => by
    rw [bne_iff_ne]
    rintro rfl
    have := tw_tok l 58 hc
    rw [tok58] at this
    cases this
  have hs := tok_self _ (tw_tok l) hn
  generalize l.takeWhile tokB = a at e hc hs
  subst e
  obtain ⟨h1, h2⟩ := colon_tw (· != 58) a u hc rfl
  unfold pairV
  rw [cut_one, h1, h2, if_neg (List.cons_ne_nil _ _)]
  simp only [List.tail_cons, hs, Bool.true_and]
theorem pair_no (l : Bs) (h : l.takeWhile tokB = [] ∨ (l.dropWhile tokB).head? ≠ some 58) : (pairV l).2.2 = false := by
  rw [← Bool.not_eq_true]
  intro hv
  unfold pairV at hv
  rw [Bool.and_eq_true, Bool.and_eq_true] at hv
  obtain ⟨⟨h1, h2⟩, h3⟩ := hv
  rw [cut_one] at h1 h2
  by_cases hd : l.dropWhile (· != 58) = []
  · rw [if_pos hd] at h1
    cases h1
  · rw [if_neg hd] at h2
    obtain ⟨ha, hn⟩ := tok_all _ h2
    have hh : ∃ b, l.dropWhile (· != 58) = 58 :: b := by
      cases hx : l.dropWhile (· != 58) with
      | nil => exact absurd hx hd
      | cons c b =>
        have := List.head_dropWhile_not (p := (· != (58 : UInt8))) (l := l) hd
        simp only [hx, List.head_cons] at this
        have : c = 58 := by simpa using this
        exact ⟨b, by rw [this]⟩
    obtain ⟨b, hb⟩ := hh
    have e : l = l.takeWhile (· != 58) ++ 58 :: b := by rw [← hb, List.takeWhile_append_dropWhile]
    simp only at ha hn
    generalize l.takeWhile (· != 58) = a at e ha hn
    subst e
    obtain ⟨e1, e2⟩ := colon_tw tokB a b ha tok58
    rw [e1, e2] at h
    exact h.elim hn (fun h => h rfl)
theorem dw_len (p : UInt8 → Bool) (l : Bs) : (l.dropWhile p).length ≤ l.length := (List.dropWhile_suffix p).length_le
theorem tw_len (p : UInt8 → Bool) (l : Bs) : (l.takeWhile p).length ≤ l.length := (List.takeWhile_prefix p).length_le
theorem rparse_j2 (s : Bs) (acc : List S49) (b tw dw : Bs) : Ev (fun k => broadsheetref18_Parse.j2 k (B s) acc (B b) (B tw) (B dw) true) (([], ⟨#[]⟩, 180) : PR) := by
  refine Ev.step (fun k => (show broadsheetref18_Parse.j2 (k + 1) (B s) acc (B b) (B tw) (B dw) true = _ from by rw [broadsheetref18_Parse.j2])) ?_
  exact Ev.ite_pos rfl (Ev.now _)
theorem rparse_l0 (s : Bs) (hs : s.length < 1000000000) : ∀ (n : Nat) (cur : Bs) (acc : List S49), cur.length < n → cur.length ≤ s.length → acc.length + cur.length ≤ 1000000000 → Ev (fun k => broadsheetref18_Parse.l0 k (B s) acc (B cur)) (parseG s.length (linesL cur) acc) := by
  intro n
  induction n with
  | zero => intro cur acc h; omega
  | succ n ih =>
    intro cur acc h1 h2 h3
    refine Ev.step (fun k => (show broadsheetref18_Parse.l0 (k + 1) (B s) acc (B cur) = _ from by rw [broadsheetref18_Parse.l0])) ?_
    refine Ev.bind (rline_ev cur (by omega)) ?_
    unfold lineV
    cases h : lineL cur with
    | none =>
      rw [lines_none h]
      refine Ev.ite_neg (by decide) ?_
      refine Ev.step (fun k => (show broadsheetref18_Parse.j1 (k + 1) (B s) acc (B []) (B []) true = _ from by rw [broadsheetref18_Parse.j1])) ?_
      refine Ev.ite_pos rfl ?_
      unfold parseG endP
      by_cases hb : s.length > 8000
      · rw [if_pos hb]; exact Ev.ite_pos (by rw [B_size]; omega) (Ev.now _)
      · rw [if_neg hb]; exact Ev.ite_neg (by rw [B_size]; omega) (Ev.now _)
    | some p =>
      obtain ⟨a, b⟩ := p
      rw [lines_some h]
      have hn := line_len h
      refine Ev.ite_pos rfl ?_
      rw [parseG]
      have hw : wrap64 (((B s).size : Int) - ((B b).size : Int)) = (s.length : Int) - (b.length : Int) := by rw [B_size, B_size, w64 (by omega) (by omega)]
      refine Ev.step (fun k => (show broadsheetref18_Parse.j1 (k + 1) (B s) acc (B a) (B b) (decide (wrap64 (((B s).size : Int) - ((B b).size : Int)) > 8000)) = _ from by rw [broadsheetref18_Parse.j1])) ?_
      rw [hw]
      by_cases hb : s.length - b.length > 8000
      · rw [if_pos hb]
        refine Ev.ite_pos (decide_eq_true (by omega)) ?_
        unfold endP
        rw [if_pos (show s.length > 8000 by omega)]
        exact Ev.ite_pos (by rw [B_size]; omega) (Ev.now _)
      · rw [if_neg hb]
        refine Ev.ite_neg (by rw [decide_eq_true_iff]; omega) ?_
        by_cases ha : a = []
        · rw [if_pos ha]
          exact Ev.ite_pos ((toList_nil a).2 ha) (Ev.now _)
        · rw [if_neg ha]
          refine Ev.ite_neg (fun hh => ha ((toList_nil a).1 hh)) (Ev.bind (rtoken_ev a (by omega)) ?_)
          have hdl := dw_len tokB a
          have htl := tw_len tokB a
          have bad : ((a.takeWhile tokB) = [] ∨ ((a.dropWhile tokB)).head? ≠ some 58) → Ev (fun k => broadsheetref18_Parse.j2 k (B s) acc (B b) (B (a.takeWhile tokB)) (B (a.dropWhile tokB)) true) (if (pairV a).2.2 = false then (([], ⟨#[]⟩, 180) : PR) else parseG s.length (linesL b) (acc ++ [pairS a])) := fun hp => by
            rw [if_pos (pair_no a hp)]
            exact rparse_j2 s acc b _ _
          by_cases ht : a.takeWhile tokB = []
          · exact Ev.ite_pos ((toList_nil _).2 ht) (bad (.inl ht))
          · refine Ev.ite_neg (fun hh => ht ((toList_nil _).1 hh)) ?_
            cases hdw : a.dropWhile tokB with
            | nil =>
              rw [hdw] at bad
              exact Ev.ite_pos ((toList_nil _).2 rfl) (bad (.inr (by simp)))
            | cons c u =>
              rw [hdw] at bad hdl
              rw [List.length_cons] at hdl
              have hsz : ((B (c :: u)).size : Int) = (u.length : Int) + 1 := by rw [B_size]; simp
              refine Ev.ite_neg (fun hh => List.cons_ne_nil _ _ ((toList_nil _).1 hh)) (Ev.ite_pos (by show (0 : Int) < ((B (c :: u)).size : Int); omega) ?_)
              rw [bt_head, extract_tail, List.drop_one, List.tail_cons]
              by_cases hc : c = 58
              · subst hc
                refine Ev.ite_pos (val_eq _ 58 rfl) (Ev.ite_pos (by show (1 : Int) ≤ ((B (58 :: u)).size : Int); omega) ?_)
                have htr := trim_len u [32, 9]
                refine Ev.bind (rtrim_ev u (by omega)) (Ev.bind (rvalue_ev _ (by omega)) ?_)
                have hpy := pair_yes a u hdw ht
                cases hv : valB (trimS u [32, 9]) with
                | false =>
                  rw [if_pos (by rw [hpy]; exact hv)]
                  exact rparse_j2 s acc b _ _
                | true =>
                  rw [if_neg (by rw [hpy]; simp [hv])]
                  refine Ev.step (fun k => (show broadsheetref18_Parse.j2 (k + 1) (B s) acc (B b) (B (a.takeWhile tokB)) (B (58 :: u)) (!true) = _ from by rw [broadsheetref18_Parse.j2])) ?_
                  refine Ev.ite_neg (by decide) (Ev.bind (rlower_ev _ (by omega)) (Ev.ite_pos (by omega) ?_))
                  rw [extract_tail, List.drop_one, List.tail_cons]
                  refine Ev.bind (rtrim_ev u (by omega)) (Ev.ite_pos (by omega) ?_)
                  have hps : pairS a = ⟨B (small (a.takeWhile tokB)), B (trimS u [32, 9])⟩ := by unfold pairS; rw [hpy]; rfl
                  rw [hps]
                  exact ih b _ (by omega) (by omega) (by rw [List.length_append, List.length_singleton]; omega)
              · exact Ev.ite_neg (val_ne c 58 hc) (bad (.inr (fun hh => hc (Option.some.inj hh))))
theorem rparse_ev (s : Bs) (hs : s.length < 1000000000) : Ev (fun k => broadsheetref18_Parse.f k (B s)) (parseV s) :=
  rparse_l0 s hs (s.length + 1) s [] (by omega) (by omega) (by simp; omega)
theorem gparse (s : Bs) (hs : s.length < 1000000000) : field_Parse.f (B s) = some (parseV s) := by
  unfold field_Parse.f
  rw [if_pos (by rw [B_size]; omega)]
  rfl
theorem same49_l0 (l : List S49) (hl : l.length ≤ 4611686018427387904) : ∀ (d i : Nat), l.length - i ≤ d → i ≤ l.length → Ev (fun k => broadsheetref07_SamePairs.l0 k l l (i : Int)) true := by
  have fin : ∀ (i : Nat), ¬ i < l.length → Ev (fun k => broadsheetref07_SamePairs.l0 k l l (i : Int)) true := by
    intro i h
    refine Ev.step (fun k => (show broadsheetref07_SamePairs.l0 (k + 1) l l i = _ from by rw [broadsheetref07_SamePairs.l0])) ?_
    exact Ev.ite_neg (by omega) (Ev.now _)
  intro d
  induction d with
  | zero => intro i hd hi; exact fin i (by omega)
  | succ d ih =>
    intro i hd hi
    by_cases h : i < l.length
    · refine Ev.step (fun k => (show broadsheetref07_SamePairs.l0 (k + 1) l l i = _ from by rw [broadsheetref07_SamePairs.l0])) ?_
      simp only [if_pos (show (i : Int) < (l.length : Int) by omega), if_pos (show (0 : Int) ≤ (i : Int) by omega), beq_self_eq_true, Bool.not_true, Bool.or_self, Bool.false_eq_true, if_false, w64 (x := (i : Int) + 1) (by omega) (by omega)]
      exact ih (i + 1) (by omega) (by omega)
    · exact fin i h
theorem same49_ev (l : List S49) (hl : l.length ≤ 4611686018427387904) : Ev (fun k => broadsheetref07_SamePairs.f k l l) true :=
  Ev.ite_pos rfl (same49_l0 l hl l.length 0 (by omega) (by omega))
theorem parseG_len (n : Nat) : ∀ (r : List (Bs × Bs)) (acc : List S49), (parseG n r acc).1.length ≤ acc.length + r.length
  | [], acc => by unfold parseG endP; split <;> simp
  | x :: r, acc => by
    unfold parseG endP
    split
    · split <;> simp
    · split
      · simp
      · split
        · simp
        · have := parseG_len n r (acc ++ [pairS x.1])
          simp only [List.length_append, List.length_cons, List.length_nil] at this ⊢
          omega
theorem lines_count : ∀ (f : Nat) (s : Bs), (linesN f s).length ≤ s.length
  | 0, s => by simp [linesN]
  | f + 1, s => by
    unfold linesN
    cases h : lineL s with
    | none => simp
    | some p =>
      have h1 := line_len (l := s) (a := p.1) (b := p.2) h
      have h2 := lines_count f p.2
      simp only [List.length_cons]
      omega
theorem parseV_len (s : Bs) : (parseV s).1.length ≤ s.length := by
  have h1 := parseG_len s.length (linesL s) []
  have h2 := lines_count (s.length + 1) s
  unfold parseV
  unfold linesL at h1 ⊢
  simp only [List.length_nil] at h1
  omega
theorem awake18 : Ev (fun k => broadsheetlaw18_awake.f k) true :=
  Ev.of (fun k => broadsheetlaw18_awake.mono k) (k := 60) (by decide +kernel)
end Go.Proofs.YtodhbldnmepmaaaDoor.F
