/- Plain law of fields: what is printed is read as it was; what is read can be printed. -/
import Derived.Test.YtodhbldnmepmaaaDoorF3
import Derived.Test.YtodhbldnmepmaaaDoorXFPrint
namespace Go.Proofs.YtodhbldnmepmaaaDoor.F
open Go.RowKit Go.Lib Go.Proofs.YtodhbldnmepmaaaDoorW.PrintWords Go.Proofs.YtodhbldnmepmaaaDoor.X Go.Proofs.YtodhbldnmepmaaaDoor.Pf Go.Proofs.YtodhbldnmepmaaaDoor.U
set_option linter.unusedSimpArgs false
def low (x : S49) : S49 := ⟨M (small (L x.f0)), x.f1⟩
theorem line_body : ∀ (b r : Bs), (∀ c ∈ b, c ≠ 13) → lineL (b ++ 13 :: 10 :: r) = some (b, r)
  | [], r, _ => by rw [List.nil_append, lineL, if_pos ⟨rfl, rfl⟩]; rfl
  | c :: t, r, h => by
    rw [List.cons_append, lineL, if_neg (fun hh => h c (by simp) hh.1), line_body t r (fun d hd => h d (by simp [hd]))]
    rfl
theorem trim_blank (v : Bs) (h : trimS v [32, 9] = v) : trimS (32 :: v) [32, 9] = v := by
  rw [trimS_eq] at h ⊢
  rw [List.dropWhile_cons, if_pos (by decide), h]
theorem ok13 {c : UInt8} (h : okV c = true) : c ≠ 13 := by rintro rfl; revert h; decide
theorem tok13 {c : UInt8} (h : tokB c = true) : c ≠ 13 := by rintro rfl; revert h; decide
theorem val_all {v : Bs} (h : valB v = true) : (∀ c ∈ v, okV c = true) ∧ trimS v [32, 9] = v := by
  unfold valB at h
  rw [Bool.and_eq_true] at h
  exact ⟨List.all_eq_true.1 h.1, by simpa using h.2⟩
theorem print_pair (n v : Bs) (hn : fieldTok n = true) (hv : valB v = true) : pairV (n ++ 58 :: 32 :: v) = (small n, v, true) := by
  obtain ⟨h1, h2⟩ := tok_all n hn
  obtain ⟨e1, e2⟩ := colon_tw tokB n (32 :: v) h1 tok58
  rw [pair_yes _ (32 :: v) e2 (by rw [e1]; exact h2), e1, trim_blank v (val_all hv).2, hv]
theorem parse_print (n : Nat) (r : Bs) (hr : n - r.length ≤ 8000) : ∀ (l : List S49) (acc : List S49), (∀ x ∈ l, okF x = true) → parseG n (linesL (textT l ++ 13 :: 10 :: r)) acc = (acc ++ l.map low, M r, 0)
  | [], acc, _ => by
    rw [show textT [] ++ 13 :: 10 :: r = [] ++ 13 :: 10 :: r from rfl, lines_some (line_body [] r (by simp)), parseG, if_neg (by show ¬ n - r.length > 8000; omega), if_pos rfl]
    simp
  | x :: l, acc, h => by
    have hx := h x (by simp)
    unfold okF at hx
    rw [Bool.and_eq_true] at hx
    obtain ⟨h1, h2⟩ := hx
    have e : textT (x :: l) ++ 13 :: 10 :: r = (L x.f0 ++ 58 :: 32 :: L x.f1) ++ 13 :: 10 :: (textT l ++ 13 :: 10 :: r) := by
      show (lineT x ++ textT l) ++ _ = _
      unfold lineT
      simp only [List.append_assoc, List.cons_append, List.nil_append]
    have hb : ∀ c ∈ L x.f0 ++ 58 :: 32 :: L x.f1, c ≠ 13 := by
      intro c hc
      rcases List.mem_append.1 hc with hc | hc
      · exact tok13 ((tok_all _ h1).1 c hc)
      · rcases List.mem_cons.1 hc with rfl | hc
        · decide
        · rcases List.mem_cons.1 hc with rfl | hc
          · decide
          · exact ok13 ((val_all h2).1 c hc)
    have hp := print_pair _ _ h1 h2
    rw [e, lines_some (line_body _ _ hb), parseG, if_neg (by rw [List.length_append]; simp only [List.length_cons]; omega), if_neg (by simp), if_neg (by rw [hp]; simp), parse_print n r hr l _ (fun y hy => h y (by simp [hy]))]
    have hps : pairS (L x.f0 ++ 58 :: 32 :: L x.f1) = low x := by
      unfold pairS low
      rw [hp]
    rw [hps]
    simp
theorem parse_text (l : List S49) (r : Bs) (h : ∀ x ∈ l, okF x = true) (hl : (textT l ++ [13, 10]).length ≤ 8000) : parseV (textT l ++ [13, 10] ++ r) = (l.map low, M r, 0) := by
  have e : textT l ++ [13, 10] ++ r = textT l ++ 13 :: 10 :: r := by simp
  have hn : (textT l ++ 13 :: 10 :: r).length - r.length ≤ 8000 := by rw [← e, List.length_append]; omega
  unfold parseV
  rw [e, parse_print _ r hn l [] h, List.nil_append]
theorem print_cases (l : List S49) : (printV l).2 ≠ 0 ∧ (printV l).1 = ⟨#[]⟩ ∨ (printV l = (M (textT l ++ [13, 10]), 0) ∧ (∀ x ∈ l, okF x = true) ∧ (textT l ++ [13, 10]).length ≤ 8000) := by
  unfold printV
  by_cases h : l.all okF = true
  · rw [if_pos h]
    by_cases h2 : (textT l ++ [13, 10]).length > 8000
    · rw [if_pos h2]; exact .inl ⟨by decide, rfl⟩
    · rw [if_neg h2]; exact .inr ⟨rfl, List.all_eq_true.1 h, by omega⟩
  · rw [if_neg h]; exact .inl ⟨by decide, rfl⟩
/-! ### what is read -/
theorem low_tok : ∀ n : Nat, n < 256 → tokB (UInt8.ofNat n) = true → tokB (lowC (UInt8.ofNat n)) = true := by decide +kernel
theorem low_low : ∀ n : Nat, n < 256 → lowC (lowC (UInt8.ofNat n)) = lowC (UInt8.ofNat n) := by decide +kernel
theorem tok_low (c : UInt8) (h : tokB c = true) : tokB (lowC c) = true := by
  have := low_tok c.toNat c.toNat_lt
  rw [UInt8.ofNat_toNat] at this
  exact this h
theorem small_small (l : Bs) : small (small l) = small l := by
  unfold small
  rw [List.map_map]
  refine List.map_congr_left fun c _ => ?_
  have := low_low c.toNat c.toNat_lt
  rwa [UInt8.ofNat_toNat] at this
theorem small_tok (l : Bs) (h : ∀ c ∈ l, tokB c = true) (hn : l ≠ []) : fieldTok (small l) = true := by
  refine tok_self _ (fun c hc => ?_) ?_
  · obtain ⟨d, hd, rfl⟩ := List.mem_map.1 hc
    exact tok_low d (h d hd)
  · intro he
    exact hn (List.map_eq_nil_iff.1 he)
/-- A list whose pairs can be printed, whose names are small, and which is no longer than n. -/
def Good (n : Nat) (l : List S49) : Prop := (∀ x ∈ l, okF x = true ∧ low x = x) ∧ tot l ≤ n ∧ l.length ≤ n
theorem tot_snoc (l : List S49) (x : S49) : tot (l ++ [x]) = tot l + (x.f0.size + x.f1.size + 4) := by
  rw [tot_append]; simp [tot]
theorem pair_ok (a : Bs) (h : (pairV a).2.2 = true) : okF (pairS a) = true ∧ low (pairS a) = pairS a ∧ (pairS a).f0.size + (pairS a).f1.size ≤ a.length := by
  by_cases h1 : a.takeWhile tokB = []
  · rw [pair_no a (.inl h1)] at h; cases h
  · by_cases h2 : (a.dropWhile tokB).head? = some 58
    · obtain ⟨u, hu⟩ : ∃ u, a.dropWhile tokB = 58 :: u := by
        cases hd : a.dropWhile tokB with
        | nil => rw [hd] at h2; cases h2
        | cons c u => rw [hd] at h2; exact ⟨u, by rw [Option.some.inj h2]⟩
      have hp := pair_yes a u hu h1
      have hlen : (a.takeWhile tokB).length + (u.length + 1) = a.length := by
        have := congrArg List.length (List.takeWhile_append_dropWhile (p := tokB) (l := a))
        rw [hu, List.length_append, List.length_cons] at this
        exact this
      have ht := trim_len u [32, 9]
      have hv : valB (trimS u [32, 9]) = true := by rw [hp] at h; exact h
      have e : pairS a = ⟨M (small (a.takeWhile tokB)), M (trimS u [32, 9])⟩ := by unfold pairS; rw [hp]
      rw [e]
      refine ⟨?_, ?_, ?_⟩
      · show (fieldTok (small (a.takeWhile tokB)) && valB (trimS u [32, 9])) = true
        rw [small_tok _ (tw_tok a) h1, hv]
        rfl
      · show (⟨M (small (small (a.takeWhile tokB))), M (trimS u [32, 9])⟩ : S49) = _
        rw [small_small]
      · show (small (a.takeWhile tokB)).length + (trimS u [32, 9]).length ≤ a.length
        unfold small
        rw [List.length_map]
        omega
    · rw [pair_no a (.inr h2)] at h; cases h
theorem parse_good (n : Nat) : ∀ (m : Nat) (cur : Bs) (acc : List S49) (q : Nat), cur.length < m → Good q acc → ((parseG n (linesL cur) acc).2.2 ≠ 0 ∧ (parseG n (linesL cur) acc).1 = [] ∧ (parseG n (linesL cur) acc).2.1 = ⟨#[]⟩) ∨ ((parseG n (linesL cur) acc).2.2 = 0 ∧ Good (q + 2 * cur.length) (parseG n (linesL cur) acc).1) := by
  have bad : ∀ k : Nat, (endP k).2.2 ≠ 0 ∧ (endP k).1 = [] ∧ (endP k).2.1 = ⟨#[]⟩ := fun k => by
    unfold endP
    split
    · exact ⟨by decide, rfl, rfl⟩
    · exact ⟨by decide, rfl, rfl⟩
  intro m
  induction m with
  | zero => intro cur acc q h; omega
  | succ m ih =>
    intro cur acc q h hg
    cases hl : lineL cur with
    | none =>
      rw [lines_none hl, parseG]
      exact .inl (bad n)
    | some p =>
      obtain ⟨a, b⟩ := p
      have hn := line_len hl
      rw [lines_some hl, parseG]
      split
      · exact .inl (bad n)
      · split
        · exact .inr ⟨rfl, hg.1, by have := hg.2.1; show tot acc ≤ _; omega, by have := hg.2.2; show acc.length ≤ _; omega⟩
        · split
          · exact .inl ⟨by decide, rfl, rfl⟩
          · rename_i hv
            obtain ⟨k1, k2, k3⟩ := pair_ok a (by simpa using hv)
            have hg2 : Good (q + 2 * (a.length + 2)) (acc ++ [pairS a]) := by
              refine ⟨fun x hx => ?_, ?_, ?_⟩
              · rcases List.mem_append.1 hx with hx | hx
                · exact hg.1 x hx
                · rw [List.mem_singleton.1 hx]; exact ⟨k1, k2⟩
              · rw [tot_snoc]; have := hg.2.1; omega
              · rw [List.length_append, List.length_singleton]; have := hg.2.2; omega
            rcases ih b _ _ (by omega) hg2 with h | h
            · exact .inl h
            · refine .inr ⟨h.1, h.2.1, ?_, ?_⟩
              · have := h.2.2.1; simp only at this ⊢; omega
              · have := h.2.2.2; simp only at this ⊢; omega
theorem parseV_good (s : Bs) : ((parseV s).2.2 ≠ 0 ∧ (parseV s).1 = [] ∧ (parseV s).2.1 = ⟨#[]⟩) ∨ ((parseV s).2.2 = 0 ∧ Good (2 * s.length) (parseV s).1) := by
  have := parse_good s.length (s.length + 1) s [] 0 (by omega) ⟨by simp, by simp [tot], by simp⟩
  rw [Nat.zero_add] at this
  exact this
theorem good_low (n : Nat) (l : List S49) (h : Good n l) : l.map low = l := by
  conv => rhs; rw [← List.map_id l]
  exact List.map_congr_left fun x hx => (h.1 x hx).2
end Go.Proofs.YtodhbldnmepmaaaDoor.F
