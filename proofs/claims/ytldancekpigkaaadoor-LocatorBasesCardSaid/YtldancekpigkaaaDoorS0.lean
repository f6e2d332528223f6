/- Plain law: a text cut at the first of some bytes; which bytes may be. -/
import Derived.Test.YtldancekpigkaaaDoorU6
import Derived.Test.YtldancekpigkaaaDoorXScheme
import Derived.Test.YtldancekpigkaaaDoorPl2
import Derived.Test.YtldancekpigkaaaDoorPl8
namespace Go.Proofs.YtldancekpigkaaaDoor.S
open Go.RowKit Go.Lib Go.Proofs.YtldancekpigkaaaDoorW.PrintWords Go.Proofs.YtldancekpigkaaaDoor.X Go.Proofs.YtldancekpigkaaaDoor.Pl Go.Proofs.YtldancekpigkaaaDoor.U
set_option linter.unusedSimpArgs false

theorem val_eq (c d : UInt8) (h : c = d) : ((c.toNat : Nat) : Int) = ((d.toNat : Nat) : Int) := by rw [h]
theorem bt_head (c : UInt8) (t : Bs) : bt (B (c :: t)) 0 = (c.toNat : Int) := B_bt (c :: t) 0 (by simp)
theorem toList_nil (l : Bs) : ((B l).toList = ([] : List UInt8)) ↔ l = [] := by rw [B_toList]
theorem ib_range : ∀ (l : Bs) (c : UInt8), -1 ≤ indexByte l c := by
  intro l c
  induction l with
  | nil => exact Int.le_refl _
  | cons d t ih =>
    unfold indexByte
    split
    · omega
    · split
      · omega
      · omega
theorem ib_contains : ∀ (l : Bs) (c : UInt8), (indexByte l c ≥ 0) ↔ l.contains c = true := by
  intro l c
  induction l with
  | nil => simp [indexByte]
  | cons d t ih =>
    have hr := ib_range t c
    unfold indexByte
    by_cases h : d = c
    · subst h
      simp
    · have h1 : (d == c) = false := beq_eq_false_iff_ne.2 h
      have h2 : (c == d) = false := beq_eq_false_iff_ne.2 (fun e => h e.symm)
      rw [List.contains_cons, h2, Bool.false_or, ← ih]
      simp only [h1, Bool.false_eq_true, if_false]
      by_cases h3 : indexByte t c = -1
      · simp [h3]
      · have h4 : (indexByte t c == -1) = false := beq_eq_false_iff_ne.2 h3
        simp only [h4, Bool.false_eq_true, if_false]
        omega
theorem nat_u8 (c : UInt8) : (c.toNat : Int).toNat.toUInt8 = c := by
  rw [Int.toNat_natCast]
  exact UInt8.ofNat_toNat
theorem ib_f (l : Bs) (c : UInt8) : strings_IndexByte.f (B l) (c.toNat : Int) = some (indexByte l c) := by
  unfold strings_IndexByte.f
  rw [nat_u8]
  rfl

def notIn (set : Bs) (c : UInt8) : Bool := !set.contains c
theorem tw_split (p : UInt8 → Bool) (l : Bs) (i : Nat) (hi : i ≤ l.length) (hall : ∀ c ∈ l.take i, p c = true) (hstop : i < l.length → p (l.getD i 0) = false) : l.takeWhile p = l.take i ∧ l.dropWhile p = l.drop i := by
  have e : l = l.take i ++ l.drop i := (List.take_append_drop i l).symm
  have h1 : (l.drop i).takeWhile p = [] ∧ (l.drop i).dropWhile p = l.drop i := by
    by_cases h : i < l.length
    · rw [List.drop_eq_getElem_cons h]
      have hs := hstop h
      rw [List.getD_eq_getElem?_getD, List.getElem?_eq_getElem h, Option.getD_some] at hs
      rw [List.takeWhile_cons, List.dropWhile_cons, hs]
      exact ⟨rfl, rfl⟩
    · rw [List.drop_eq_nil_of_le (by omega)]
      exact ⟨rfl, rfl⟩
  constructor
  · conv => lhs; rw [e]
    rw [List.takeWhile_append_of_pos hall, h1.1, List.append_nil]
  · conv => lhs; rw [e]
    rw [List.dropWhile_append_of_pos hall, h1.2]
theorem take_mem (l : Bs) (p : UInt8 → Bool) (i : Nat) (h : i < l.length) (hall : ∀ c ∈ l.take i, p c = true) (hc : p l[i] = true) : ∀ c ∈ l.take (i + 1), p c = true := by
  intro c hcm
  rw [List.take_add_one, List.getElem?_eq_getElem h] at hcm
  rcases List.mem_append.1 hcm with hcm | hcm
  · exact hall c hcm
  · simp only [Option.toList_some, List.mem_singleton] at hcm
    rw [hcm]; exact hc
theorem gcut_l0 (set s : Bs) (hs : s.length < 4611686018427387904) : ∀ (d i : Nat), s.length - i ≤ d → i ≤ s.length → (∀ c ∈ s.take i, notIn set c = true) →
    Ev (fun k => locator_cut.l0 k (B s) (B set) (s.length : Int) (i : Int)) (B (s.takeWhile (notIn set)), B (s.dropWhile (notIn set))) := by
  have fin : ∀ (i : Nat), i = s.length → (∀ c ∈ s.take i, notIn set c = true) → Ev (fun k => locator_cut.l0 k (B s) (B set) (s.length : Int) (i : Int)) (B (s.takeWhile (notIn set)), B (s.dropWhile (notIn set))) := by
    intro i hi hall
    obtain ⟨h1, h2⟩ := tw_split (notIn set) s i (by omega) hall (by omega)
    rw [h1, h2, List.take_of_length_le (by omega), List.drop_eq_nil_of_le (by omega)]
    refine Ev.step (fun k => (show locator_cut.l0 (k + 1) (B s) (B set) (s.length : Int) i = _ from by rw [locator_cut.l0])) ?_
    simp only [if_neg (show ¬ (i : Int) < (s.length : Int) by omega)]
    exact Ev.now _
  intro d
  induction d with
  | zero => intro i hd hi hall; exact fin i (by omega) hall
  | succ d ih =>
    intro i hd hi hall
    by_cases h : i < s.length
    · refine Ev.step (fun k => (show locator_cut.l0 (k + 1) (B s) (B set) (s.length : Int) i = _ from by rw [locator_cut.l0])) ?_
      have e1 : wrap64 ((i : Int) + 1) = ((i + 1 : Nat) : Int) := by rw [w64 (by omega) (by omega)]; rfl
      simp only [if_pos (show (i : Int) < (s.length : Int) by omega), if_pos (show (0 : Int) ≤ (i : Int) by omega), if_pos (show (i : Int) < ((B s).size : Int) by rw [B_size]; omega), bt_val s i h, ib_f, Option.bind_some, e1]
      by_cases hc : set.contains s[i] = true
      · obtain ⟨h1, h2⟩ := tw_split (notIn set) s i hi hall (fun _ => by rw [List.getD_eq_getElem?_getD, List.getElem?_eq_getElem h, Option.getD_some]; unfold notIn; rw [hc]; rfl)
        simp only [if_pos ((ib_contains set s[i]).2 hc), if_pos (show (i : Int) ≤ ((B s).size : Int) by rw [B_size]; omega), Int.toNat_natCast, extract_head, extract_tail]
        rw [h1, h2]
        exact Ev.now _
      · simp only [if_neg (show ¬ indexByte set s[i] ≥ 0 from fun hh => hc ((ib_contains set s[i]).1 hh))]
        exact ih (i + 1) (by omega) (by omega) (take_mem s _ i h hall (by unfold notIn; simpa using hc))
    · exact fin i (by omega) hall
theorem gcut_ev (set s : Bs) (hs : s.length < 4611686018427387904) : Ev (fun k => locator_cut.f k (B s) (B set)) (B (s.takeWhile (notIn set)), B (s.dropWhile (notIn set))) :=
  gcut_l0 set s hs s.length 0 (by omega) (by omega) (by simp)
theorem ramong_l0 (c : UInt8) (s : Bs) (hs : s.length < 4611686018427387904) : ∀ (d i : Nat), s.length - i ≤ d → i ≤ s.length → Ev (fun k => broadsheetref12_among.l0 k (c.toNat : Int) (B s) (i : Int)) ((s.drop i).contains c) := by
  have fin : ∀ (i : Nat), i = s.length → Ev (fun k => broadsheetref12_among.l0 k (c.toNat : Int) (B s) (i : Int)) ((s.drop i).contains c) := by
    intro i hi
    rw [List.drop_eq_nil_of_le (by omega)]
    refine Ev.step (fun k => (show broadsheetref12_among.l0 (k + 1) (c.toNat : Int) (B s) i = _ from by rw [broadsheetref12_among.l0])) ?_
    simp only [if_neg (show ¬ (i : Int) < ((B s).size : Int) by rw [B_size]; omega)]
    exact Ev.now _
  intro d
  induction d with
  | zero => intro i hd hi; exact fin i (by omega)
  | succ d ih =>
    intro i hd hi
    by_cases h : i < s.length
    · refine Ev.step (fun k => (show broadsheetref12_among.l0 (k + 1) (c.toNat : Int) (B s) i = _ from by rw [broadsheetref12_among.l0])) ?_
      have e1 : wrap64 ((i : Int) + 1) = ((i + 1 : Nat) : Int) := by rw [w64 (by omega) (by omega)]; rfl
      simp only [if_pos (show (i : Int) < ((B s).size : Int) by rw [B_size]; omega), if_pos (show (0 : Int) ≤ (i : Int) by omega), bt_val s i h, e1]
      rw [List.drop_eq_getElem_cons h, List.contains_cons]
      by_cases hc : s[i] = c
      · rw [hc]
        simp only [if_true, beq_self_eq_true, Bool.true_or]
        exact Ev.now _
      · have hb : (c == s[i]) = false := beq_eq_false_iff_ne.2 (fun e => hc e.symm)
        simp only [if_neg (show ¬ (s[i].toNat : Int) = (c.toNat : Int) from val_ne _ _ hc)]
        rw [hb, Bool.false_or]
        exact ih (i + 1) (by omega) (by omega)
    · exact fin i (by omega)
theorem ramong_ev (c : UInt8) (s : Bs) (hs : s.length < 4611686018427387904) : Ev (fun k => broadsheetref12_among.f k (c.toNat : Int) (B s)) (s.contains c) :=
  ramong_l0 c s hs s.length 0 (by omega) (by omega)
theorem rfirst_l0 (set s : Bs) (hs : s.length < 4611686018427387904) (hset : set.length < 4611686018427387904) : ∀ (d i : Nat), s.length - i ≤ d → i ≤ s.length → (∀ c ∈ s.take i, notIn set c = true) →
    Ev (fun k => broadsheetref12_first.l0 k (B s) (B set) (i : Int)) ((s.takeWhile (notIn set)).length : Int) := by
  have fin : ∀ (i : Nat), i = s.length → (∀ c ∈ s.take i, notIn set c = true) → Ev (fun k => broadsheetref12_first.l0 k (B s) (B set) (i : Int)) ((s.takeWhile (notIn set)).length : Int) := by
    intro i hi hall
    obtain ⟨h1, _⟩ := tw_split (notIn set) s i (by omega) hall (by omega)
    rw [h1, List.length_take, Nat.min_eq_left (by omega)]
    refine Ev.step (fun k => (show broadsheetref12_first.l0 (k + 1) (B s) (B set) i = _ from by rw [broadsheetref12_first.l0])) ?_
    simp only [if_neg (show ¬ (i : Int) < ((B s).size : Int) by rw [B_size]; omega)]
    rw [hi, show ((B s).size : Int) = (s.length : Int) from by rw [B_size]]
    exact Ev.now _
  intro d
  induction d with
  | zero => intro i hd hi hall; exact fin i (by omega) hall
  | succ d ih =>
    intro i hd hi hall
    by_cases h : i < s.length
    · refine Ev.step (fun k => (show broadsheetref12_first.l0 (k + 1) (B s) (B set) i = _ from by rw [broadsheetref12_first.l0])) ?_
      have e1 : wrap64 ((i : Int) + 1) = ((i + 1 : Nat) : Int) := by rw [w64 (by omega) (by omega)]; rfl
      simp only [if_pos (show (i : Int) < ((B s).size : Int) by rw [B_size]; omega), if_pos (show (0 : Int) ≤ (i : Int) by omega), bt_val s i h, e1]
      refine Ev.bind (ramong_ev s[i] set hset) ?_
      by_cases hc : set.contains s[i] = true
      · obtain ⟨h1, _⟩ := tw_split (notIn set) s i hi hall (fun _ => by rw [List.getD_eq_getElem?_getD, List.getElem?_eq_getElem h, Option.getD_some]; unfold notIn; rw [hc]; rfl)
        simp only [if_pos hc]
        rw [h1, List.length_take, Nat.min_eq_left (by omega)]
        exact Ev.now _
      · simp only [if_neg hc]
        exact ih (i + 1) (by omega) (by omega) (take_mem s _ i h hall (by unfold notIn; simpa using hc))
    · exact fin i (by omega) hall
theorem rfirst_ev (set s : Bs) (hs : s.length < 4611686018427387904) (hset : set.length < 4611686018427387904) : Ev (fun k => broadsheetref12_first.f k (B s) (B set)) ((s.takeWhile (notIn set)).length : Int) :=
  rfirst_l0 set s hs hset s.length 0 (by omega) (by omega) (by simp)
theorem dw_head {set l : Bs} {c : UInt8} {t : Bs} (h : l.dropWhile (notIn set) = c :: t) : set.contains c = true := by
  have := List.head?_dropWhile_not (p := notIn set) (l := l)
  rw [h] at this
  simpa [notIn] using this
theorem tw_len (set l : Bs) : (l.takeWhile (notIn set)).length ≤ l.length := (List.takeWhile_prefix _).length_le
theorem dw_len (set l : Bs) : (l.dropWhile (notIn set)).length ≤ l.length := (List.dropWhile_suffix _).length_le
theorem tw_take (set l : Bs) : l.take (l.takeWhile (notIn set)).length = l.takeWhile (notIn set) := by
  have e := List.takeWhile_append_dropWhile (p := notIn set) (l := l)
  generalize l.takeWhile (notIn set) = a at e ⊢
  generalize l.dropWhile (notIn set) = b at e
  subst e
  rw [List.take_left]
theorem tw_drop (set l : Bs) : l.drop (l.takeWhile (notIn set)).length = l.dropWhile (notIn set) := by
  have e := List.takeWhile_append_dropWhile (p := notIn set) (l := l)
  generalize l.takeWhile (notIn set) = a at e ⊢
  generalize l.dropWhile (notIn set) = b at e ⊢
  subst e
  rw [List.drop_left]
theorem tw_sum (set l : Bs) : (l.takeWhile (notIn set)).length + (l.dropWhile (notIn set)).length = l.length := by
  rw [← List.length_append, List.takeWhile_append_dropWhile]
end Go.Proofs.YtldancekpigkaaaDoor.S
