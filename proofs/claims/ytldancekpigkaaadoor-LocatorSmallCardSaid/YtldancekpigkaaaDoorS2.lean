/- Plain law: which text may be a scheme, and which signs may be: the reference's answer and the program's are the same. -/
import Derived.Test.YtldancekpigkaaaDoorS10
namespace Go.Proofs.YtldancekpigkaaaDoor.S
open Go.RowKit Go.Lib Go.Proofs.YtldancekpigkaaaDoorW.PrintWords Go.Proofs.YtldancekpigkaaaDoor.X Go.Proofs.YtldancekpigkaaaDoor.Pl Go.Proofs.YtldancekpigkaaaDoor.U
set_option linter.unusedSimpArgs false

def alphaB (c : UInt8) : Bool := (decide (65 ≤ c) && decide (c ≤ 90)) || (decide (97 ≤ c) && decide (c ≤ 122))
def digitB (c : UInt8) : Bool := decide (48 ≤ c) && decide (c ≤ 57)
def hexB (c : UInt8) : Bool := digitB c || (decide (65 ≤ c) && decide (c ≤ 70)) || (decide (97 ≤ c) && decide (c ≤ 102))
theorem all_u8 {p : UInt8 → Prop} (h : ∀ n : Nat, n < 256 → p (UInt8.ofNat n)) (c : UInt8) : p c := by
  have := h c.toNat c.toNat_lt
  rw [UInt8.ofNat_toNat] at this
  exact this
theorem letter_eq (c : UInt8) : letterI (c.toNat : Int) = alphaB c := all_u8 (p := fun c => letterI (c.toNat : Int) = alphaB c) (by decide +kernel) c
theorem digit_eq (c : UInt8) : digitI (c.toNat : Int) = digitB c := all_u8 (p := fun c => digitI (c.toNat : Int) = digitB c) (by decide +kernel) c
theorem gletter (c : UInt8) : locator_letter.f (c.toNat : Int) = some (alphaB c) := all_u8 (p := fun c => locator_letter.f (c.toNat : Int) = some (alphaB c)) (by decide +kernel) c
theorem gdigit (c : UInt8) : locator_digit.f (c.toNat : Int) = some (digitB c) := all_u8 (p := fun c => locator_digit.f (c.toNat : Int) = some (digitB c)) (by decide +kernel) c
theorem ralpha (c : UInt8) : broadsheetref12_alpha.f (c.toNat : Int) = some (alphaB c) := all_u8 (p := fun c => broadsheetref12_alpha.f (c.toNat : Int) = some (alphaB c)) (by decide +kernel) c
theorem rdigit (c : UInt8) : broadsheetref12_digit.f (c.toNat : Int) = some (digitB c) := all_u8 (p := fun c => broadsheetref12_digit.f (c.toNat : Int) = some (digitB c)) (by decide +kernel) c
theorem rhex (c : UInt8) : broadsheetref12_hex.f (c.toNat : Int) = some (hexB c) := all_u8 (p := fun c => broadsheetref12_hex.f (c.toNat : Int) = some (hexB c)) (by decide +kernel) c
def hexS : Bs := [48, 49, 50, 51, 52, 53, 54, 55, 56, 57, 97, 98, 99, 100, 101, 102, 65, 66, 67, 68, 69, 70]
theorem hex_contains (c : UInt8) : hexS.contains c = hexB c := all_u8 (p := fun c => hexS.contains c = hexB c) (by decide +kernel) c
theorem plus_eq (c : UInt8) : plusI (c.toNat : Int) = ([43, 45, 46] : Bs).contains c := by
  unfold plusI
  rw [nat_u8]
  have := ib_contains [43, 45, 46] c
  cases h : ([43, 45, 46] : Bs).contains c with
  | true => exact decide_eq_true (this.2 h)
  | false => exact decide_eq_false (fun hh => by rw [this.1 hh] at h; cases h)
theorem bt_toNat (l : Bs) (i : Nat) (h : i < l.length) : bt (B l) (i : Int) = ((l[i]).toNat : Int) := bt_val l i h

/-! ### a scheme -/
def schemeC (c : UInt8) : Bool := alphaB c || digitB c || ([43, 45, 46] : Bs).contains c
def schemeL (l : Bs) : Bool := (match l with | [] => false | c :: _ => alphaB c) && l.all schemeC
theorem schemeB_all : ∀ (l : Bs), schemeB false l = l.all schemeC := by
  intro l
  induction l with
  | nil => rfl
  | cons c t ih =>
    rw [schemeB, List.all_cons, ih, letter_eq, digit_eq, plus_eq]
    unfold schemeC
    cases alphaB c <;> simp
theorem schemeB_eq (l : Bs) : (schemeB true l && !l.isEmpty) = schemeL l := by
  cases l with
  | nil => rfl
  | cons c t =>
    rw [schemeB, schemeB_all, letter_eq]
    unfold schemeL
    rw [List.all_cons]
    simp only [Bool.not_true, Bool.false_and, Bool.or_false, List.isEmpty_cons, Bool.not_false, Bool.and_true]
    unfold schemeC
    cases alphaB c <;> simp
theorem gscheme (l : Bs) (hl : l.length ≤ 140737488355328) : locator_scheme.f (B l) = some (schemeL l) := by
  unfold locator_scheme.f
  rw [if_pos (by rw [B_size]; exact hl)]
  exact congrArg some (schemeB_eq l)
theorem rscheme_l0 (l : Bs) (hl : l.length < 4611686018427387904) : ∀ (d i : Nat), l.length - i ≤ d → i ≤ l.length → Ev (fun k => broadsheetref12_scheme.l0 k (B l) (i : Int)) ((l.drop i).all schemeC) := by
  have fin : ∀ (i : Nat), i = l.length → Ev (fun k => broadsheetref12_scheme.l0 k (B l) (i : Int)) ((l.drop i).all schemeC) := by
    intro i hi
    rw [List.drop_eq_nil_of_le (by omega)]
    refine Ev.step (fun k => (show broadsheetref12_scheme.l0 (k + 1) (B l) i = _ from by rw [broadsheetref12_scheme.l0])) ?_
    simp only [if_neg (show ¬ (i : Int) < ((B l).size : Int) by rw [B_size]; omega)]
    exact Ev.now _
  intro d
  induction d with
  | zero => intro i hd hi; exact fin i (by omega)
  | succ d ih =>
    intro i hd hi
    by_cases h : i < l.length
    · refine Ev.step (fun k => (show broadsheetref12_scheme.l0 (k + 1) (B l) i = _ from by rw [broadsheetref12_scheme.l0])) ?_
      have e1 : wrap64 ((i : Int) + 1) = ((i + 1 : Nat) : Int) := by rw [w64 (by omega) (by omega)]; rfl
      have ih := ih (i + 1) (by omega) (by omega)
      have e3 : (⟨#[43, 45, 46]⟩ : ByteArray) = B [43, 45, 46] := rfl
      simp only [if_pos (show (i : Int) < ((B l).size : Int) by rw [B_size]; omega), if_pos (show (0 : Int) ≤ (i : Int) by omega), bt_val l i h, ralpha, rdigit, Option.bind_some, e1, e3]
      rw [List.drop_eq_getElem_cons h, List.all_cons]
      unfold schemeC
      cases ha : alphaB l[i] with
      | true => simp only [if_true, Bool.true_or, Bool.true_and]; exact ih
      | false =>
        simp only [Bool.false_eq_true, if_false, Bool.false_or]
        cases hd2 : digitB l[i] with
        | true => simp only [if_true, Bool.true_or, Bool.true_and]; exact ih
        | false =>
          simp only [Bool.false_eq_true, if_false, Bool.false_or]
          refine Ev.bind (ramong_ev l[i] [43, 45, 46] (by decide)) ?_
          cases hc : ([43, 45, 46] : Bs).contains l[i] with
          | true => simp only [if_true, Bool.true_and]; exact ih
          | false => simp only [Bool.false_eq_true, if_false, Bool.false_and]; exact Ev.now _
    · exact fin i (by omega)
theorem rscheme_ev (l : Bs) (hl : l.length < 4611686018427387904) : Ev (fun k => broadsheetref12_scheme.f k (B l)) (schemeL l) := by
  unfold broadsheetref12_scheme.f
  cases l with
  | nil =>
    simp only [if_pos (show (B []).toList = ([] : List UInt8) from (toList_nil []).2 rfl)]
    refine Ev.step (fun k => (show broadsheetref12_scheme.j0 (k + 1) (B []) true = _ from by rw [broadsheetref12_scheme.j0])) ?_
    exact Ev.now _
  | cons c t =>
    have hs : ((B (c :: t)).size : Int) = (t.length : Int) + 1 := by rw [B_size]; simp
    simp only [if_neg (show ¬ (B (c :: t)).toList = ([] : List UInt8) from fun h => List.cons_ne_nil _ _ ((toList_nil _).1 h)), if_pos (show 0 < ((B (c :: t)).size : Int) by omega), bt_head, ralpha, Option.bind_some]
    refine Ev.step (fun k => (show broadsheetref12_scheme.j0 (k + 1) (B (c :: t)) (!alphaB c) = _ from by rw [broadsheetref12_scheme.j0])) ?_
    rw [show schemeL (c :: t) = (alphaB c && (c :: t).all schemeC) from rfl]
    cases ha : alphaB c with
    | false =>
      simp only [Bool.not_false, if_true, Bool.false_and]
      exact Ev.now _
    | true =>
      simp only [Bool.not_true, Bool.false_eq_true, if_false, Bool.true_and]
      have := rscheme_l0 (c :: t) hl (t.length + 1) 0 (by simp) (by omega)
      exact this

/-! ### the signs -/
def baseS : Bs := [45, 46, 95, 126, 33, 36, 38, 39, 40, 41, 42, 43, 44, 59, 61, 58, 64]
def okC (more : Bs) (c : UInt8) : Bool := alphaB c || digitB c || decide (127 < c) || (more ++ baseS).contains c
def hexL (t : Bs) : Bool := match t with | a :: b :: _ => hexB a && hexB b | _ => false
def signsN (more : Bs) : Nat → Bs → Bool
  | 0, _ => true
  | _ + 1, [] => true
  | f + 1, c :: t => if okC more c = true then signsN more f t else if c = 37 then (if hexL t = true then signsN more f (t.drop 2) else false) else false
def signsL (more l : Bs) : Bool := signsN more l.length l
theorem signs_fuel (more : Bs) : ∀ (f g : Nat) (l : Bs), l.length ≤ f → l.length ≤ g → signsN more f l = signsN more g l := by
  intro f
  induction f with
  | zero =>
    intro g l h1 h2
    have : l = [] := List.eq_nil_of_length_eq_zero (by omega)
    subst this
    cases g <;> rfl
  | succ f ih =>
    intro g l h1 h2
    cases g with
    | zero =>
      have : l = [] := List.eq_nil_of_length_eq_zero (by omega)
      subst this
      rfl
    | succ g =>
      cases l with
      | nil => rfl
      | cons c t =>
        simp only [List.length_cons] at h1 h2
        rw [signsN, signsN, ih g t (by omega) (by omega), ih g (t.drop 2) (by rw [List.length_drop]; omega) (by rw [List.length_drop]; omega)]
theorem dw_nil {p : UInt8 → Bool} (l : Bs) : l.dropWhile p = [] ↔ ∀ x ∈ l, p x = true := by
  induction l with
  | nil => simp
  | cons c t ih =>
    rw [List.dropWhile_cons]
    by_cases h : p c = true
    · rw [if_pos h, ih]
      simp [h]
    · rw [if_neg h]
      simp [h]
theorem trim_two (a b : UInt8) : trimS [a, b] hexS = [] ↔ (hexB a && hexB b) = true := by
  rw [← hex_contains, ← hex_contains]
  unfold trimS trimLeftS trimRightS
  rw [dw_nil]
  cases ha : hexS.contains a with
  | true =>
    cases hb : hexS.contains b with
    | true =>
      simp only [List.reverse_cons, List.reverse_nil, List.nil_append, List.cons_append, List.dropWhile, ha, hb, Bool.and_true, iff_true]
      intro x hx
      cases hx
    | false =>
      simp only [List.reverse_cons, List.reverse_nil, List.nil_append, List.cons_append, List.dropWhile, hb, Bool.and_false, Bool.false_eq_true, iff_false]
      intro h
      have := h b (by simp)
      rw [hb] at this
      cases this
  | false =>
    cases hb : hexS.contains b with
    | true =>
      simp only [List.reverse_cons, List.reverse_nil, List.nil_append, List.cons_append, List.dropWhile, hb, ha, Bool.and_true, Bool.false_eq_true, iff_false]
      intro h
      have := h a (by simp)
      rw [ha] at this
      cases this
    | false =>
      simp only [List.reverse_cons, List.reverse_nil, List.nil_append, List.cons_append, List.dropWhile, hb, Bool.and_false, Bool.false_eq_true, iff_false]
      intro h
      have := h b (by simp)
      rw [hb] at this
      cases this
theorem ghex (t : Bs) (ht : t.length < 4611686018427387904) : locator_hex.f (B t) = some (hexL t) := by
  unfold locator_hex.f
  by_cases h : ((B t).size : Int) ≥ 2
  · have h2 : 2 ≤ t.length := by rw [B_size] at h; omega
    rw [if_pos h, if_pos (by omega), if_pos (by omega), extract_head]
    match t, h2 with
    | a :: b :: r, _ =>
      have e : (List.take 2 (a :: b :: r) : Bs) = [a, b] := rfl
      rw [e]
      have et : strings_Trim.f (B [a, b]) (⟨#[48, 49, 50, 51, 52, 53, 54, 55, 56, 57, 97, 98, 99, 100, 101, 102, 65, 66, 67, 68, 69, 70]⟩ : ByteArray) = some (B (trimS [a, b] hexS)) := by
        unfold strings_Trim.f
        rw [if_pos ⟨by rw [B_size]; simp, by decide, by decide⟩]
        rfl
      rw [et, Option.bind_some, B_toList]
      have := trim_two a b
      show some (trimS [a, b] hexS == []) = some (hexB a && hexB b)
      cases hq : hexB a && hexB b with
      | true => rw [this.2 hq]; rfl
      | false =>
        have hne : trimS [a, b] hexS ≠ [] := fun hh => by rw [this.1 hh] at hq; cases hq
        rw [beq_eq_false_iff_ne.2 hne]
  · rw [if_neg h]
    rw [B_size] at h
    match t, h with
    | [], _ => rfl
    | [a], _ => rfl
    | a :: b :: r, h => simp at h; omega
theorem gsigns_l0 (more l : Bs) (hl : l.length < 4611686018427387000) : ∀ (d i : Nat), l.length - i ≤ d → i ≤ l.length + 2 → Ev (fun k => locator_signs.l0 k (B l) (B (more ++ baseS)) (i : Int)) (signsL more (l.drop i)) := by
  have fin : ∀ (i : Nat), l.length ≤ i → Ev (fun k => locator_signs.l0 k (B l) (B (more ++ baseS)) (i : Int)) (signsL more (l.drop i)) := by
    intro i hi
    rw [List.drop_eq_nil_of_le (by omega)]
    refine Ev.step (fun k => (show locator_signs.l0 (k + 1) (B l) (B (more ++ baseS)) i = _ from by rw [locator_signs.l0])) ?_
    simp only [if_neg (show ¬ (i : Int) < ((B l).size : Int) by rw [B_size]; omega)]
    exact Ev.now _
  intro d
  induction d with
  | zero => intro i hd hi; exact fin i (by omega)
  | succ d ih =>
    intro i hd hi
    by_cases h : i < l.length
    · have e1 : wrap64 ((i : Int) + 1) = ((i + 1 : Nat) : Int) := by rw [w64 (by omega) (by omega)]; rfl
      have e2 : wrap64 ((i : Int) + 2) = ((i + 2 : Nat) : Int) := by rw [w64 (by omega) (by omega)]; rfl
      have e3 : wrap64 (((i + 2 : Nat) : Int) + 1) = ((i + 3 : Nat) : Int) := by rw [w64 (by omega) (by omega)]; rfl
      have hd1 : l.drop i = l[i] :: l.drop (i + 1) := List.drop_eq_getElem_cons h
      have hlen : (l.drop i).length = (l.drop (i + 1)).length + 1 := by rw [hd1, List.length_cons]
      have go : okC more l[i] = true → signsL more (l.drop i) = signsL more (l.drop (i + 1)) := by
        intro ho
        unfold signsL
        rw [hlen, hd1, signsN, if_pos ho]
      have stop : okC more l[i] = false → signsL more (l.drop i) = if l[i] = 37 then (if hexL (l.drop (i + 1)) = true then signsL more (l.drop (i + 3)) else false) else false := by
        intro ho
        unfold signsL
        rw [hlen, hd1, signsN, if_neg (by rw [ho]; decide)]
        by_cases h37 : l[i] = 37
        · rw [if_pos h37, if_pos h37]
          have hd3 : l.drop (i + 3) = (l.drop (i + 1)).drop 2 := by rw [List.drop_drop]
          rw [hd3]
          by_cases hx : hexL (l.drop (i + 1)) = true
          · rw [if_pos hx, if_pos hx]
            exact signs_fuel more _ _ _ (by rw [List.length_drop]; omega) (Nat.le_refl _)
          · rw [if_neg hx, if_neg hx]
        · rw [if_neg h37, if_neg h37]
      have yes : okC more l[i] = true → Ev (fun k => locator_signs.j1 k (B l) (B (more ++ baseS)) (i : Int) (l[i].toNat : Int) true) (signsL more (l.drop i)) := by
        intro ho
        refine Ev.step (fun k => (show locator_signs.j1 (k + 1) (B l) (B (more ++ baseS)) i (l[i].toNat : Int) true = _ from by rw [locator_signs.j1])) ?_
        simp only [if_true, e1]
        rw [go ho]
        exact ih (i + 1) (by omega) (by omega)
      refine Ev.step (fun k => (show locator_signs.l0 (k + 1) (B l) (B (more ++ baseS)) i = _ from by rw [locator_signs.l0])) ?_
      simp only [if_pos (show (i : Int) < ((B l).size : Int) by rw [B_size]; omega), if_pos (show (0 : Int) ≤ (i : Int) by omega), bt_val l i h, gletter, gdigit, ib_f, Option.bind_some]
      cases ha : alphaB l[i] with
      | true => simp only [if_true]; exact yes (by unfold okC; rw [ha]; rfl)
      | false =>
        simp only [Bool.false_eq_true, if_false]
        cases hg : digitB l[i] with
        | true => simp only [if_true]; exact yes (by unfold okC; rw [hg]; simp)
        | false =>
          simp only [Bool.false_eq_true, if_false]
          by_cases h127 : (127 : UInt8) < l[i]
          · have h127' : ((l[i].toNat : Nat) : Int) > 127 := by have := UInt8.lt_iff_toNat_lt.1 h127; have e : (127 : UInt8).toNat = 127 := rfl; omega
            simp only [if_pos h127', decide_eq_true h127']
            exact yes (by unfold okC; rw [decide_eq_true h127]; simp)
          · have h127' : ¬ ((l[i].toNat : Nat) : Int) > 127 := by intro hh; apply h127; rw [UInt8.lt_iff_toNat_lt]; have e : (127 : UInt8).toNat = 127 := rfl; omega
            simp only [if_neg h127']
            have ho : okC more l[i] = (more ++ baseS).contains l[i] := by unfold okC; rw [ha, hg, decide_eq_false h127]; simp only [Bool.false_or]
            cases hc : (more ++ baseS).contains l[i] with
            | true =>
              simp only [decide_eq_true ((ib_contains _ _).2 hc)]
              exact yes (by rw [ho, hc])
            | false =>
              have hno : ¬ indexByte (more ++ baseS) l[i] ≥ 0 := fun hh => by rw [(ib_contains _ _).1 hh] at hc; cases hc
              simp only [decide_eq_false hno]
              refine Ev.step (fun k => (show locator_signs.j1 (k + 1) (B l) (B (more ++ baseS)) i (l[i].toNat : Int) false = _ from by rw [locator_signs.j1])) ?_
              rw [stop (by rw [ho, hc])]
              simp only [Bool.false_eq_true, if_false, e1, e2, e3]
              by_cases h37 : l[i] = 37
              · simp only [if_pos (show (l[i].toNat : Int) = 37 from val_eq _ 37 h37), if_pos h37, if_pos (show (0 : Int) ≤ ((i + 1 : Nat) : Int) by omega), if_pos (show ((i + 1 : Nat) : Int) ≤ ((B l).size : Int) by rw [B_size]; omega), Int.toNat_natCast, extract_tail, ghex (l.drop (i + 1)) (by rw [List.length_drop]; omega), Option.bind_some]
                cases hx : hexL (l.drop (i + 1)) with
                | true =>
                  simp only [if_true]
                  have h3 : i + 3 ≤ l.length := by
                    have : 2 ≤ (l.drop (i + 1)).length := by
                      generalize l.drop (i + 1) = t at hx
                      match t, hx with
                      | [], hx => cases hx
                      | [a], hx => cases hx
                      | a :: b :: r, _ => simp
                    rw [List.length_drop] at this
                    omega
                  exact ih (i + 3) (by omega) (by omega)
                | false =>
                  simp only [Bool.false_eq_true, if_false]
                  exact Ev.now _
              · simp only [if_neg (show ¬ (l[i].toNat : Int) = 37 from val_ne _ 37 h37), if_neg h37]
                exact Ev.now _
    · exact fin i (by omega)
theorem gsigns_ev (more l : Bs) (hl : l.length < 4611686018427387000) (hm : more.length < 1000) : Ev (fun k => locator_signs.f k (B l) (B more)) (signsL more l) := by
  unfold locator_signs.f
  have e : (⟨#[45, 46, 95, 126, 33, 36, 38, 39, 40, 41, 42, 43, 44, 59, 61, 58, 64]⟩ : ByteArray) = B baseS := rfl
  simp only [if_pos (show (B more).size + 17 ≤ 9223372036854775807 by rw [B_size]; omega), e, B_append]
  have := gsigns_l0 more l hl l.length 0 (by omega) (by omega)
  exact this
end Go.Proofs.YtldancekpigkaaaDoor.S
