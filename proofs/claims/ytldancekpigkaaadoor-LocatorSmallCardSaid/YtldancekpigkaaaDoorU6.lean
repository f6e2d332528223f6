/- Plain law, third part: the code point at the head of a text; which text may be; the name at a text's head. Plain law, fourth part: what the printed functions of code points come to. Plain law, sixth part: the document's answers on texts: the code point at the head, which text may be, plain lines, the name. Plain law, seventh part: which text may be, plain lines, the name at a text's head: what the printed functions come to. -/
import Derived.Test.YtldancekpigkaaaDoorU0
import Derived.Test.YtldancekpigkaaaDoorXScheme
import Derived.Test.YtldancekpigkaaaDoorPl7
namespace Go.Proofs.YtldancekpigkaaaDoor.U
open Go.RowKit Go.Lib Go.Proofs.YtldancekpigkaaaDoor.X

def nb (l : Bs) (i : Nat) : Nat := (l.getD i 0).toNat
theorem nb_lt (l : Bs) (i : Nat) : nb l i < 256 := (l.getD i 0).toNat_lt
theorem decodeL_eq (l : Bs) : decodeL l = decodeN l.length (nb l 0) (nb l 1) (nb l 2) (nb l 3) := by
  have h := decode_at (B l) 0
  rw [B_size, B_get, B_get, B_get, B_get] at h
  exact h
theorem decode_drop (l : Bs) (p : Nat) : Utf8.decode (B l) p = decodeL (l.drop p) := by
  rw [decodeL_eq, decode_at, B_size, B_get, B_get, B_get, B_get, List.length_drop]
  have e : ∀ i, nb (l.drop p) i = (l.getD (p + i) 0).toNat := fun i => by
    unfold nb
    rw [List.getD_eq_getElem?_getD, List.getD_eq_getElem?_getD, List.getElem?_drop]
  rw [e, e, e, e]
  rfl
theorem decodeGo_eq (l : Bs) (h : l ≠ []) : Lib.decodeGo (B l) = decodeL l := by
  unfold Lib.decodeGo
  have : ¬ (B l).size = 0 := by rw [B_size]; intro e; exact h (List.eq_nil_of_length_eq_zero e)
  rw [if_neg this, decode_drop]
  rfl

/-- The code point at a text's head, and how many bytes it has. -/
def firstL (l : Bs) : Int × Int :=
  if l = [] then (0, 0) else if (decodeL l).1 = 65533 ∧ (decodeL l).2 = 1 then (0, 0) else (((decodeL l).1 : Int), ((decodeL l).2 : Int))
abbrev bad (l : Bs) : Prop := (decodeL l).1 = 65533 ∧ (decodeL l).2 = 1
theorem firstL_nil : firstL [] = (0, 0) := rfl
theorem firstL_bad {l : Bs} (h : bad l) : firstL l = (0, 0) := by
  unfold firstL
  rw [if_pos (show (decodeL l).1 = 65533 ∧ (decodeL l).2 = 1 from h)]
  split <;> rfl
theorem firstL_good {l : Bs} (h0 : l ≠ []) (h : ¬ bad l) : firstL l = (((decodeL l).1 : Int), ((decodeL l).2 : Int)) := by
  unfold firstL
  rw [if_neg h0, if_neg h]
theorem wid_pos (l : Bs) : 1 ≤ (decodeL l).2 := decodeL_width l
theorem wid_le (l : Bs) (h : l ≠ []) : (decodeL l).2 ≤ l.length := decodeL_le l h

/-! ### Which text may be -/
def runesL : Nat → Bs → Bool
  | 0, _ => true
  | f + 1, l => if l = [] then true else charB (decodeL l).1 && runesL f (l.drop (decodeL l).2)
theorem runesOk_eq (l : Bs) : ∀ (f p : Nat), runesOk (B l) f p = runesL f (l.drop p) := by
  intro f
  induction f with
  | zero => intro p; rfl
  | succ f ih =>
    intro p
    unfold runesOk runesL
    rw [B_size, decode_drop]
    by_cases h : p < l.length
    · have : l.drop p ≠ [] := by simp; omega
      rw [if_pos h, if_neg this, ih, List.drop_drop]
    · have : l.drop p = [] := List.drop_eq_nil_of_le (by omega)
      rw [if_neg h, if_pos this]
/-- The document's answer. -/
def checkL : Nat → Bs → Int
  | 0, _ => 0
  | f + 1, l => if l = [] then 0 else if (firstL l).2 = 0 ∨ charB (firstL l).1 = false then 50 else checkL f (l.drop (decodeL l).2)
theorem check_eq : ∀ (f : Nat) (l : Bs), l.length ≤ f → (if validD l && runesL f l then (0 : Int) else 50) = checkL f l := by
  intro f
  induction f with
  | zero =>
    intro l hl
    have : l = [] := List.eq_nil_of_length_eq_zero (by omega)
    subst this
    rfl
  | succ f ih =>
    intro l hl
    unfold runesL checkL
    by_cases h : l = []
    · subst h; rfl
    · rw [if_neg h, if_neg h, validD_step l h]
      by_cases hb : bad l
      · rw [if_pos hb, firstL_bad hb]; simp
      · rw [if_neg hb, firstL_good h hb]
        have hw := wid_pos l
        by_cases hc : charB ((decodeL l).1 : Int) = true
        · have hn : ¬ ((((decodeL l).1 : Int), ((decodeL l).2 : Int)).2 = 0 ∨ charB (((decodeL l).1 : Int), ((decodeL l).2 : Int)).1 = false) := by
            rintro (h1 | h1)
            · simp only at h1; omega
            · simp only [hc] at h1; cases h1
          rw [ite_cond_eq_false _ _ (eq_false hn), ← ih _ (by simp; omega), hc, Bool.true_and]
        · have hc' : charB ((decodeL l).1 : Int) = false := by simpa using hc
          have hp : ((((decodeL l).1 : Int), ((decodeL l).2 : Int)).2 = 0 ∨ charB (((decodeL l).1 : Int), ((decodeL l).2 : Int)).1 = false) := .inr hc'
          rw [ite_cond_eq_true (50 : Int) _ (eq_true hp), hc']
          simp
theorem checkR_eq (l : Bs) : checkR (B l) = checkL l.length l := by
  unfold checkR
  rw [B_data, B_size, runesOk_eq, List.drop_zero, check_eq _ _ (Nat.le_refl _)]

/-! ### The name at a text's head -/
end Go.Proofs.YtldancekpigkaaaDoor.U
namespace Go.Proofs.YtldancekpigkaaaDoor.U
open Go.RowKit Go.Lib Go.Proofs.YtldancekpigkaaaDoorW.PrintWords Go.Proofs.YtldancekpigkaaaDoor.X Go.Proofs.YtldancekpigkaaaDoor.Pl

def inP (c : Int) : List Int → Bool
  | a :: b :: r => (decide (a ≤ c) && decide (c ≤ b)) || inP c r
  | _ => false
theorem rd_nat (l : List Int) (i : Nat) : rd l (i : Int) = l.getD i 0 := by simp [rd]
theorem inP_drop (c : Int) (l : List Int) (i : Nat) (h : i + 1 < l.length) : inP c (l.drop i) = ((decide (l.getD i 0 ≤ c) && decide (c ≤ l.getD (i + 1) 0)) || inP c (l.drop (i + 2))) := by
  rw [List.drop_eq_getElem_cons (by omega), List.drop_eq_getElem_cons h, List.getD_eq_getElem?_getD, List.getD_eq_getElem?_getD, List.getElem?_eq_getElem h, List.getElem?_eq_getElem (by omega)]
  rfl
theorem inP_end (c : Int) (l : List Int) (i : Nat) (h : ¬ i + 1 < l.length) : inP c (l.drop i) = false := by
  have : (l.drop i).length ≤ 1 := by simp; omega
  match hl : l.drop i, this with
  | [], _ => rfl
  | [a], _ => rfl
theorem in_ev (c : Int) (l : List Int) (hl : l.length ≤ 1000) : ∀ (d i : Nat), l.length - i ≤ d → i ≤ l.length + 2 → Ev (fun k => broadsheetref05_in.l0 k c l (i : Int)) (inP c (l.drop i)) := by
  intro d
  induction d with
  | zero =>
    intro i hd hi
    refine Ev.step (fun k => (show broadsheetref05_in.l0 (k + 1) c l i = _ from by rw [broadsheetref05_in.l0])) ?_
    have e1 : wrap64 ((i : Int) + 1) = (i : Int) + 1 := w64 (by omega) (by omega)
    simp only [e1, if_neg (show ¬ (i : Int) + 1 < (l.length : Int) by omega)]
    rw [inP_end _ _ _ (by omega)]
    exact Ev.now _
  | succ d ih =>
    intro i hd hi
    refine Ev.step (fun k => (show broadsheetref05_in.l0 (k + 1) c l i = _ from by rw [broadsheetref05_in.l0])) ?_
    have e1 : wrap64 ((i : Int) + 1) = ((i + 1 : Nat) : Int) := by rw [w64 (by omega) (by omega)]; rfl
    have e2 : wrap64 ((i : Int) + 2) = ((i + 2 : Nat) : Int) := by rw [w64 (by omega) (by omega)]; rfl
    by_cases h : i + 1 < l.length
    · have q := ih (i + 2) (by omega) (by omega)
      simp only [e1, e2, rd_nat, if_pos (show ((i + 1 : Nat) : Int) < (l.length : Int) by omega), if_pos (show (0 : Int) ≤ (i : Int) by omega), if_pos (show (i : Int) < (l.length : Int) by omega), if_pos (show (0 : Int) ≤ ((i + 1 : Nat) : Int) by omega)]
      rw [inP_drop c l i h]
      by_cases h1 : c ≥ l.getD i 0
      · by_cases h2 : c ≤ l.getD (i + 1) 0
        · simp only [if_pos h1, if_pos h2, decide_eq_true (show l.getD i 0 ≤ c from h1), decide_eq_true h2, Bool.true_and, Bool.true_or]
          exact Ev.now _
        · simp only [if_pos h1, if_neg h2, decide_eq_false h2, Bool.and_false, Bool.false_or]
          exact q
      · simp only [if_neg h1, decide_eq_false (show ¬ l.getD i 0 ≤ c from h1), Bool.false_and, Bool.false_or]
        exact q
    · simp only [e1, if_neg (show ¬ ((i + 1 : Nat) : Int) < (l.length : Int) by omega)]
      rw [inP_end _ _ _ h]
      exact Ev.now _
theorem in_f (c : Int) (l : List Int) (hl : l.length ≤ 1000) : Ev (fun k => broadsheetref05_in.f k c l) (inP c l) := by
  have := in_ev c l hl l.length 0 (by omega) (by omega)
  simpa [broadsheetref05_in.f] using this

theorem rchar_ev (c : Int) : Ev (fun k => broadsheetref05_Char.f k c) (charB c) := by
  have h : inP c [9, 10, 13, 13, 32, 55295, 57344, 65533, 65536, 1114111] = charB c := by simp [inP, charB, amongB, charL, inR]
  rw [← h]
  unfold broadsheetref05_Char.f
  exact Ev.bind (in_f c _ (by decide)) (Ev.now _)
end Go.Proofs.YtldancekpigkaaaDoor.U
namespace Go.Proofs.YtldancekpigkaaaDoor.U
open Go.RowKit Go.Lib Go.Proofs.YtldancekpigkaaaDoorW.PrintWords Go.Proofs.YtldancekpigkaaaDoor.X Go.Proofs.YtldancekpigkaaaDoor.Pl

theorem bt_nb (l : Bs) (i : Nat) (h : i < l.length) : bt (B l) (i : Int) = (nb l i : Int) := by
  rw [B_bt l i h]
  unfold nb
  rw [List.getD_eq_getElem?_getD, List.getElem?_eq_getElem h]
  rfl
theorem bt_nb0 (l : Bs) (h : 0 < l.length) : bt (B l) 0 = (nb l 0 : Int) := bt_nb l 0 h
theorem bt_nb1 (l : Bs) (h : 1 < l.length) : bt (B l) 1 = (nb l 1 : Int) := bt_nb l 1 h
theorem bt_nb2 (l : Bs) (h : 2 < l.length) : bt (B l) 2 = (nb l 2 : Int) := bt_nb l 2 h
theorem bt_nb3 (l : Bs) (h : 3 < l.length) : bt (B l) 3 = (nb l 3 : Int) := bt_nb l 3 h
theorem w_nb (l : Bs) (i : Nat) : wrap64 (nb l i : Int) = (nb l i : Int) := w64 (by have := nb_lt l i; omega) (by have := nb_lt l i; omega)

/-- The three rounds of the document's answer at n bytes. -/
def restN (n : Nat) (c least : Int) (b1 b2 b3 : Nat) : Int × Int :=
  if (b1 < 128 ∨ 191 < b1) then (0, 0)
  else if n = 2 then fin (c * 64 + b1 - 128) 2
  else if (b2 < 128 ∨ 191 < b2) then (0, 0)
  else if n = 3 then fin ((c * 64 + b1 - 128) * 64 + b2 - 128) 3
  else if (b3 < 128 ∨ 191 < b3) then (0, 0)
  else fin (((c * 64 + b1 - 128) * 64 + b2 - 128) * 64 + b3 - 128) 4
where fin (v : Int) (n : Int) : Int × Int := if v < least then (0, 0) else if v > 1114111 then (0, 0) else if v ≥ 55296 ∧ v ≤ 57343 then (0, 0) else (v, n)

theorem fin_ev (s : ByteArray) (c least : Int) (n : Nat) (i : Nat) (hi : ¬ i < n) : Ev (fun k => broadsheetref05_First.l0 k s (n : Int) c least (i : Int)) (restN.fin least c (n : Int)) := by
  refine Ev.step (fun k => (show broadsheetref05_First.l0 (k + 1) s n c least i = _ from by rw [broadsheetref05_First.l0])) ?_
  simp only [if_neg (show ¬ (i : Int) < (n : Int) by omega)]
  unfold restN.fin
  by_cases h1 : c < least
  · simp only [if_pos h1]; exact Ev.now _
  · simp only [if_neg h1]
    by_cases h2 : c > 1114111
    · simp only [if_pos h2]; exact Ev.now _
    · simp only [if_neg h2]
      by_cases h3 : c ≥ 55296
      · simp only [if_pos h3]
        by_cases h4 : c ≤ 57343
        · simp only [if_pos h4, if_pos (show c ≥ 55296 ∧ c ≤ 57343 from ⟨h3, h4⟩)]; exact Ev.now _
        · simp only [if_neg h4, if_neg (show ¬ (c ≥ 55296 ∧ c ≤ 57343) from fun h => h4 h.2)]; exact Ev.now _
      · simp only [if_neg h3, if_neg (show ¬ (c ≥ 55296 ∧ c ≤ 57343) from fun h => h3 h.1)]; exact Ev.now _
theorem step_ev (l : Bs) (c least : Int) (n i : Nat) (hi : i < n) (hl : n ≤ l.length) (h0 : i < 4) (hc0 : 0 ≤ c) (hc1 : c ≤ 1000000) (R : Int × Int)
    (hbad : (nb l i < 128 ∨ 191 < nb l i) → R = (0, 0))
    (hgood : 128 ≤ nb l i → nb l i ≤ 191 → Ev (fun k => broadsheetref05_First.l0 k (B l) (n : Int) (c * 64 + nb l i - 128) least ((i + 1 : Nat) : Int)) R) :
    Ev (fun k => broadsheetref05_First.l0 k (B l) (n : Int) c least (i : Int)) R := by
  have hb := nb_lt l i
  refine Ev.step (fun k => (show broadsheetref05_First.l0 (k + 1) (B l) n c least i = _ from by rw [broadsheetref05_First.l0])) ?_
  have e1 : wrap64 ((i : Int) + 1) = ((i + 1 : Nat) : Int) := by rw [w64 (by omega) (by omega)]; rfl
  have e2 : wrap64 (wrap64 (wrap64 (c * 64) + (nb l i : Int)) - 128) = c * 64 + nb l i - 128 := by
    rw [w64 (x := c * 64) (by omega) (by omega), w64 (x := c * 64 + (nb l i : Int)) (by omega) (by omega), w64 (by omega) (by omega)]
  simp only [if_pos (show (i : Int) < (n : Int) by omega), if_pos (show (0 : Int) ≤ (i : Int) by omega), B_size, if_pos (show (i : Int) < (l.length : Int) by omega), bt_nb l i (by omega), w_nb, e1, e2]
  by_cases h1 : nb l i < 128
  · simp only [if_pos (show (nb l i : Int) < 128 by omega)]
    rw [hbad (.inl h1)]
    exact Ev.now _
  · simp only [if_neg (show ¬ (nb l i : Int) < 128 by omega)]
    by_cases h2 : 191 < nb l i
    · simp only [if_pos (show (nb l i : Int) > 191 by omega)]
      rw [hbad (.inr h2)]
      exact Ev.now _
    · simp only [if_neg (show ¬ (nb l i : Int) > 191 by omega)]
      exact hgood (by omega) (by omega)
theorem rest_ev (l : Bs) (c least : Int) (n : Nat) (hn2 : 2 ≤ n) (hn : n ≤ 4) (hc0 : 0 ≤ c) (hc1 : c ≤ 31) :
    Ev (fun k => broadsheetref05_First.j2 k (B l) (n : Int) c least) (if l.length < n then (0, 0) else restN n c least (nb l 1) (nb l 2) (nb l 3)) := by
  refine Ev.step (fun k => (show broadsheetref05_First.j2 (k + 1) (B l) n c least = _ from by rw [broadsheetref05_First.j2])) ?_
  rw [B_size]
  by_cases hl : l.length < n
  · simp only [if_pos (show (l.length : Int) < (n : Int) by omega), if_pos hl]
    exact Ev.now _
  · simp only [if_neg (show ¬ (l.length : Int) < (n : Int) by omega), if_neg hl]
    have b1 := nb_lt l 1
    have b2 := nb_lt l 2
    refine step_ev l c least n 1 (by omega) (by omega) (by omega) hc0 (by omega) _ (fun h => by unfold restN; rw [if_pos h]) (fun h1 h2 => ?_)
    have k1 : ¬ (nb l 1 < 128 ∨ 191 < nb l 1) := by omega
    by_cases e2 : n = 2
    · subst e2
      have := fin_ev (B l) (c * 64 + nb l 1 - 128) least 2 2 (by omega)
      unfold restN
      rw [if_neg k1, if_pos rfl]
      exact this
    · refine step_ev l _ least n 2 (by omega) (by omega) (by omega) (by omega) (by omega) _ (fun h => by unfold restN; rw [if_neg k1, if_neg e2, if_pos h]) (fun h3 h4 => ?_)
      have k2 : ¬ (nb l 2 < 128 ∨ 191 < nb l 2) := by omega
      by_cases e3 : n = 3
      · subst e3
        have := fin_ev (B l) ((c * 64 + nb l 1 - 128) * 64 + nb l 2 - 128) least 3 3 (by omega)
        unfold restN
        rw [if_neg k1, if_neg e2, if_neg k2, if_pos rfl]
        exact this
      · obtain rfl : n = 4 := by omega
        refine step_ev l _ least 4 3 (by omega) (by omega) (by omega) (by omega) (by omega) _ (fun h => by unfold restN; rw [if_neg k1, if_neg e2, if_neg k2, if_neg e3, if_pos h]) (fun h5 h6 => ?_)
        have k3 : ¬ (nb l 3 < 128 ∨ 191 < nb l 3) := by omega
        have := fin_ev (B l) (((c * 64 + nb l 1 - 128) * 64 + nb l 2 - 128) * 64 + nb l 3 - 128) least 4 4 (by omega)
        unfold restN
        rw [if_neg k1, if_neg e2, if_neg k2, if_neg e3, if_neg k3]
        exact this

set_option maxHeartbeats 1000000 in
theorem first_two (l : Bs) (h0 : l ≠ []) (h1 : 192 ≤ nb l 0) (h2 : nb l 0 < 224) : firstL l = if l.length < 2 then (0, 0) else restN 2 ((nb l 0 : Int) - 192) 128 (nb l 1) (nb l 2) (nb l 3) := by
  have l1 := nb_lt l 1
  have hp : 0 < l.length := List.length_pos_iff.2 h0
  unfold firstL restN restN.fin
  rw [if_neg h0, decodeL_eq]
  generalize nb l 0 = b0 at *
  generalize nb l 1 = b1 at *
  generalize nb l 2 = b2 at *
  generalize nb l 3 = b3 at *
  generalize l.length = n at *
  have e0 : ¬ b0 < 128 := by omega
  by_cases hc : b0 / 32 = 6 ∧ (1 < n ∧ b1 / 64 = 2)
  · by_cases hd : b0 % 32 * 64 + b1 % 64 ≥ 128
    · have e : decodeN n b0 b1 b2 b3 = (b0 % 32 * 64 + b1 % 64, 2) := by unfold decodeN; rw [if_neg e0, if_pos hc, if_pos hd]
      rw [e]
      simp only [if_neg (show ¬ (b0 % 32 * 64 + b1 % 64 = 65533 ∧ 2 = 1) by omega), if_neg (show ¬ n < 2 by omega), if_neg (show ¬ (b1 < 128 ∨ 191 < b1) by omega), if_true, if_neg (show ¬ ((b0 : Int) - 192) * 64 + b1 - 128 < 128 by omega), if_neg (show ¬ ((b0 : Int) - 192) * 64 + b1 - 128 > 1114111 by omega), if_neg (show ¬ (((b0 : Int) - 192) * 64 + b1 - 128 ≥ 55296 ∧ ((b0 : Int) - 192) * 64 + b1 - 128 ≤ 57343) by omega)]
      refine Prod.ext ?_ ?_
      · simp only; omega
      · rfl
    · have e : decodeN n b0 b1 b2 b3 = (65533, 1) := by unfold decodeN; rw [if_neg e0, if_pos hc, if_neg hd]
      rw [e]
      simp only [if_neg (show ¬ n < 2 by omega), if_neg (show ¬ (b1 < 128 ∨ 191 < b1) by omega), if_true, and_self, if_pos (show ((b0 : Int) - 192) * 64 + b1 - 128 < 128 by omega)]
  · have e : decodeN n b0 b1 b2 b3 = (65533, 1) := by unfold decodeN; rw [if_neg e0, if_neg hc, if_neg (by omega), if_neg (by omega)]
    rw [e]
    simp only [and_self, if_true]
    by_cases hn : n < 2
    · simp only [if_pos hn]
    · simp only [if_neg hn, if_pos (show b1 < 128 ∨ 191 < b1 by omega)]
set_option maxHeartbeats 1000000 in
theorem first_three (l : Bs) (h0 : l ≠ []) (h1 : 224 ≤ nb l 0) (h2 : nb l 0 < 240) : firstL l = if l.length < 3 then (0, 0) else restN 3 ((nb l 0 : Int) - 224) 2048 (nb l 1) (nb l 2) (nb l 3) := by
  have l1 := nb_lt l 1
  have l2 := nb_lt l 2
  have hp : 0 < l.length := List.length_pos_iff.2 h0
  unfold firstL restN restN.fin
  rw [if_neg h0, decodeL_eq]
  generalize nb l 0 = b0 at *
  generalize nb l 1 = b1 at *
  generalize nb l 2 = b2 at *
  generalize nb l 3 = b3 at *
  generalize l.length = n at *
  have e0 : ¬ b0 < 128 := by omega
  have e1 : ¬ (b0 / 32 = 6 ∧ (1 < n ∧ b1 / 64 = 2)) := by omega
  have n32 : ¬ (3 : Nat) = 2 := by omega
  by_cases hc : b0 / 16 = 14 ∧ (1 < n ∧ b1 / 64 = 2) ∧ (2 < n ∧ b2 / 64 = 2)
  · have hb1 : ¬ (b1 < 128 ∨ 191 < b1) := by omega
    have hb2 : ¬ (b2 < 128 ∨ 191 < b2) := by omega
    by_cases hd : b0 % 16 * 4096 + b1 % 64 * 64 + b2 % 64 ≥ 2048 ∧ (b0 % 16 * 4096 + b1 % 64 * 64 + b2 % 64 < 55296 ∨ (57344 ≤ b0 % 16 * 4096 + b1 % 64 * 64 + b2 % 64 ∧ b0 % 16 * 4096 + b1 % 64 * 64 + b2 % 64 ≤ 1114111))
    · have e : decodeN n b0 b1 b2 b3 = (b0 % 16 * 4096 + b1 % 64 * 64 + b2 % 64, 3) := by unfold decodeN; rw [if_neg e0, if_neg e1, if_pos hc, if_pos hd]
      rw [e]
      simp only [if_neg (show ¬ (b0 % 16 * 4096 + b1 % 64 * 64 + b2 % 64 = 65533 ∧ 3 = 1) by omega), if_neg (show ¬ n < 3 by omega), if_neg hb1, if_neg n32, if_neg hb2, if_true, if_neg (show ¬ (((b0 : Int) - 224) * 64 + b1 - 128) * 64 + b2 - 128 < 2048 by omega), if_neg (show ¬ (((b0 : Int) - 224) * 64 + b1 - 128) * 64 + b2 - 128 > 1114111 by omega), if_neg (show ¬ ((((b0 : Int) - 224) * 64 + b1 - 128) * 64 + b2 - 128 ≥ 55296 ∧ (((b0 : Int) - 224) * 64 + b1 - 128) * 64 + b2 - 128 ≤ 57343) by omega)]
      refine Prod.ext ?_ ?_
      · simp only; omega
      · rfl
    · have e : decodeN n b0 b1 b2 b3 = (65533, 1) := by unfold decodeN; rw [if_neg e0, if_neg e1, if_pos hc, if_neg hd]
      rw [e]
      simp only [if_neg (show ¬ n < 3 by omega), if_neg hb1, if_neg n32, if_neg hb2, if_true, and_self]
      by_cases he : (((b0 : Int) - 224) * 64 + b1 - 128) * 64 + b2 - 128 < 2048
      · simp only [if_pos he]
      · simp only [if_neg he, if_neg (show ¬ (((b0 : Int) - 224) * 64 + b1 - 128) * 64 + b2 - 128 > 1114111 by omega), if_pos (show ((((b0 : Int) - 224) * 64 + b1 - 128) * 64 + b2 - 128 ≥ 55296 ∧ (((b0 : Int) - 224) * 64 + b1 - 128) * 64 + b2 - 128 ≤ 57343) by omega)]
  · have e : decodeN n b0 b1 b2 b3 = (65533, 1) := by unfold decodeN; rw [if_neg e0, if_neg e1, if_neg hc, if_neg (by omega)]
    rw [e]
    simp only [and_self, if_true]
    by_cases hn : n < 3
    · simp only [if_pos hn]
    · simp only [if_neg hn, if_neg n32]
      by_cases hb : b1 < 128 ∨ 191 < b1
      · simp only [if_pos hb]
      · simp only [if_neg hb, if_pos (show b2 < 128 ∨ 191 < b2 by omega)]
set_option maxHeartbeats 1000000 in
theorem first_four (l : Bs) (h0 : l ≠ []) (h1 : 240 ≤ nb l 0) (h2 : nb l 0 < 248) : firstL l = if l.length < 4 then (0, 0) else restN 4 ((nb l 0 : Int) - 240) 65536 (nb l 1) (nb l 2) (nb l 3) := by
  have l1 := nb_lt l 1
  have l2 := nb_lt l 2
  have l3 := nb_lt l 3
  have hp : 0 < l.length := List.length_pos_iff.2 h0
  unfold firstL restN restN.fin
  rw [if_neg h0, decodeL_eq]
  generalize nb l 0 = b0 at *
  generalize nb l 1 = b1 at *
  generalize nb l 2 = b2 at *
  generalize nb l 3 = b3 at *
  generalize l.length = n at *
  have e0 : ¬ b0 < 128 := by omega
  have e1 : ¬ (b0 / 32 = 6 ∧ (1 < n ∧ b1 / 64 = 2)) := by omega
  have e2 : ¬ (b0 / 16 = 14 ∧ (1 < n ∧ b1 / 64 = 2) ∧ (2 < n ∧ b2 / 64 = 2)) := by omega
  have n42 : ¬ (4 : Nat) = 2 := by omega
  have n43 : ¬ (4 : Nat) = 3 := by omega
  by_cases hc : b0 / 8 = 30 ∧ (1 < n ∧ b1 / 64 = 2) ∧ (2 < n ∧ b2 / 64 = 2) ∧ (3 < n ∧ b3 / 64 = 2)
  · have hb1 : ¬ (b1 < 128 ∨ 191 < b1) := by omega
    have hb2 : ¬ (b2 < 128 ∨ 191 < b2) := by omega
    have hb3 : ¬ (b3 < 128 ∨ 191 < b3) := by omega
    by_cases hd : b0 % 8 * 262144 + b1 % 64 * 4096 + b2 % 64 * 64 + b3 % 64 ≥ 65536 ∧ (b0 % 8 * 262144 + b1 % 64 * 4096 + b2 % 64 * 64 + b3 % 64 < 55296 ∨ (57344 ≤ b0 % 8 * 262144 + b1 % 64 * 4096 + b2 % 64 * 64 + b3 % 64 ∧ b0 % 8 * 262144 + b1 % 64 * 4096 + b2 % 64 * 64 + b3 % 64 ≤ 1114111))
    · have e : decodeN n b0 b1 b2 b3 = (b0 % 8 * 262144 + b1 % 64 * 4096 + b2 % 64 * 64 + b3 % 64, 4) := by unfold decodeN; rw [if_neg e0, if_neg e1, if_neg e2, if_pos hc, if_pos hd]
      rw [e]
      simp only [if_neg (show ¬ (b0 % 8 * 262144 + b1 % 64 * 4096 + b2 % 64 * 64 + b3 % 64 = 65533 ∧ 4 = 1) by omega), if_neg (show ¬ n < 4 by omega), if_neg hb1, if_neg n42, if_neg hb2, if_neg n43, if_neg hb3, if_neg (show ¬ ((((b0 : Int) - 240) * 64 + b1 - 128) * 64 + b2 - 128) * 64 + b3 - 128 < 65536 by omega), if_neg (show ¬ ((((b0 : Int) - 240) * 64 + b1 - 128) * 64 + b2 - 128) * 64 + b3 - 128 > 1114111 by omega), if_neg (show ¬ (((((b0 : Int) - 240) * 64 + b1 - 128) * 64 + b2 - 128) * 64 + b3 - 128 ≥ 55296 ∧ ((((b0 : Int) - 240) * 64 + b1 - 128) * 64 + b2 - 128) * 64 + b3 - 128 ≤ 57343) by omega)]
      refine Prod.ext ?_ ?_
      · simp only; omega
      · rfl
    · have e : decodeN n b0 b1 b2 b3 = (65533, 1) := by unfold decodeN; rw [if_neg e0, if_neg e1, if_neg e2, if_pos hc, if_neg hd]
      rw [e]
      simp only [if_neg (show ¬ n < 4 by omega), if_neg hb1, if_neg n42, if_neg hb2, if_neg n43, if_neg hb3, if_true, and_self]
      by_cases he : ((((b0 : Int) - 240) * 64 + b1 - 128) * 64 + b2 - 128) * 64 + b3 - 128 < 65536
      · simp only [if_pos he]
      · simp only [if_neg he, if_pos (show ((((b0 : Int) - 240) * 64 + b1 - 128) * 64 + b2 - 128) * 64 + b3 - 128 > 1114111 by omega)]
  · have e : decodeN n b0 b1 b2 b3 = (65533, 1) := by unfold decodeN; rw [if_neg e0, if_neg e1, if_neg e2, if_neg hc]
    rw [e]
    simp only [and_self, if_true]
    by_cases hn : n < 4
    · simp only [if_pos hn]
    · simp only [if_neg hn, if_neg n42, if_neg n43]
      by_cases hb : b1 < 128 ∨ 191 < b1
      · simp only [if_pos hb]
      · by_cases hb2 : b2 < 128 ∨ 191 < b2
        · simp only [if_neg hb, if_pos hb2]
        · simp only [if_neg hb, if_neg hb2, if_pos (show b3 < 128 ∨ 191 < b3 by omega)]
theorem first_bad (l : Bs) (h1 : 128 ≤ nb l 0) (h2 : nb l 0 < 192 ∨ 248 ≤ nb l 0) : firstL l = (0, 0) := by
  have l0 := nb_lt l 0
  apply firstL_bad
  unfold bad
  rw [decodeL_eq]
  unfold decodeN
  rw [if_neg (by omega), if_neg (by omega), if_neg (by omega), if_neg (by omega)]
  exact ⟨rfl, rfl⟩

theorem first_ev (l : Bs) : Ev (fun k => broadsheetref05_First.f k (B l)) (firstL l) := by
  unfold broadsheetref05_First.f
  by_cases h0 : l = []
  · subst h0
    simp only [if_pos (show (B []).toList = ([] : List UInt8) from B_toList [])]
    exact Ev.now _
  · have hp : 0 < l.length := List.length_pos_iff.2 h0
    have lt := nb_lt l 0
    simp only [B_toList, if_neg h0, B_size, if_pos (show (0 : Int) < (l.length : Int) by omega), bt_nb0 l hp, w_nb]
    by_cases h1 : nb l 0 < 128
    · simp only [if_pos (show (nb l 0 : Int) < 128 by omega)]
      have : firstL l = ((nb l 0 : Int), 1) := by
        have e : decodeL l = (nb l 0, 1) := by rw [decodeL_eq]; unfold decodeN; rw [if_pos h1]
        rw [firstL_good h0 (by unfold bad; rw [e]; simp; omega), e]
        rfl
      rw [this]
      exact Ev.now _
    · simp only [if_neg (show ¬ (nb l 0 : Int) < 128 by omega)]
      by_cases h2 : 192 ≤ nb l 0
      · simp only [if_pos (show (nb l 0 : Int) ≥ 192 by omega)]
        by_cases h3 : nb l 0 < 224
        · refine Ev.step (fun k => (show broadsheetref05_First.j0 (k + 1) (B l) (nb l 0) _ = _ from by rw [broadsheetref05_First.j0])) ?_
          simp only [decide_eq_true (show (nb l 0 : Int) < 224 by omega), if_true, w64 (x := (nb l 0 : Int) - 192) (by omega) (by omega)]
          rw [first_two l h0 h2 h3]
          exact rest_ev l _ 128 2 (by omega) (by omega) (by omega) (by omega)
        · refine Ev.step (fun k => (show broadsheetref05_First.j0 (k + 1) (B l) (nb l 0) _ = _ from by rw [broadsheetref05_First.j0])) ?_
          simp only [decide_eq_false (show ¬ (nb l 0 : Int) < 224 by omega), Bool.false_eq_true, if_false, if_pos (show (nb l 0 : Int) ≥ 224 by omega)]
          refine Ev.step (fun k => (show broadsheetref05_First.j1 (k + 1) (B l) (nb l 0) _ = _ from by rw [broadsheetref05_First.j1])) ?_
          by_cases h4 : nb l 0 < 240
          · simp only [decide_eq_true (show (nb l 0 : Int) < 240 by omega), if_true, w64 (x := (nb l 0 : Int) - 224) (by omega) (by omega)]
            rw [first_three l h0 (by omega) h4]
            exact rest_ev l _ 2048 3 (by omega) (by omega) (by omega) (by omega)
          · simp only [decide_eq_false (show ¬ (nb l 0 : Int) < 240 by omega), Bool.false_eq_true, if_false, if_pos (show (nb l 0 : Int) ≥ 240 by omega)]
            by_cases h5 : nb l 0 < 248
            · simp only [if_pos (show (nb l 0 : Int) < 248 by omega), w64 (x := (nb l 0 : Int) - 240) (by omega) (by omega)]
              rw [first_four l h0 (by omega) h5]
              exact rest_ev l _ 65536 4 (by omega) (by omega) (by omega) (by omega)
            · simp only [if_neg (show ¬ (nb l 0 : Int) < 248 by omega)]
              rw [first_bad l (by omega) (by omega)]
              exact Ev.now _
      · simp only [if_neg (show ¬ (nb l 0 : Int) ≥ 192 by omega)]
        rw [first_bad l (by omega) (by omega)]
        refine Ev.step (fun k => (show broadsheetref05_First.j0 (k + 1) (B l) (nb l 0) _ = _ from by rw [broadsheetref05_First.j0])) ?_
        simp only [Bool.false_eq_true, if_false, if_neg (show ¬ (nb l 0 : Int) ≥ 224 by omega)]
        refine Ev.step (fun k => (show broadsheetref05_First.j1 (k + 1) (B l) (nb l 0) _ = _ from by rw [broadsheetref05_First.j1])) ?_
        simp only [Bool.false_eq_true, if_false, if_neg (show ¬ (nb l 0 : Int) ≥ 240 by omega)]
        exact Ev.now _
end Go.Proofs.YtldancekpigkaaaDoor.U
namespace Go.Proofs.YtldancekpigkaaaDoor.U
open Go.RowKit Go.Lib Go.Proofs.YtldancekpigkaaaDoorW.PrintWords Go.Proofs.YtldancekpigkaaaDoor.X Go.Proofs.YtldancekpigkaaaDoor.Pl

theorem first_ok {l : Bs} (h : (firstL l).2 ≠ 0) : l ≠ [] ∧ ¬ bad l ∧ firstL l = (((decodeL l).1 : Int), ((decodeL l).2 : Int)) := by
  by_cases h0 : l = []
  · subst h0; exact absurd rfl h
  · by_cases hb : bad l
    · rw [firstL_bad hb] at h; exact absurd rfl h
    · exact ⟨h0, hb, firstL_good h0 hb⟩
theorem first_zero {l : Bs} (h0 : l ≠ []) (h : (firstL l).2 = 0) : bad l := by
  by_cases hb : bad l
  · exact hb
  · rw [firstL_good h0 hb] at h
    have := wid_pos l
    simp only at h
    omega
theorem decodeL_lt (l : Bs) : (decodeL l).1 < 4611686018427387904 := by
  rw [decodeL_eq]
  have l0 := nb_lt l 0; have l1 := nb_lt l 1; have l2 := nb_lt l 2; have l3 := nb_lt l 3
  unfold decodeN
  split
  · simp only; omega
  · split
    · split <;> simp only <;> omega
    · split
      · split <;> simp only <;> omega
      · split
        · split <;> simp only <;> omega
        · simp only; omega

/-! ### Which text may be -/
theorem rcheck_l0 : ∀ (d : Nat) (l : Bs), l.length ≤ d → Ev (fun k => broadsheetref05_Check.l0 k (B l)) (checkL d l) := by
  intro d
  induction d with
  | zero =>
    intro l hl
    have : l = [] := List.eq_nil_of_length_eq_zero (by omega)
    subst this
    refine Ev.step (fun k => (show broadsheetref05_Check.l0 (k + 1) (B []) = _ from by rw [broadsheetref05_Check.l0])) ?_
    simp only [if_neg (show ¬ ((B []).size : Int) > 0 by decide)]
    exact Ev.now _
  | succ d ih =>
    intro l hl
    refine Ev.step (fun k => (show broadsheetref05_Check.l0 (k + 1) (B l) = _ from by rw [broadsheetref05_Check.l0])) ?_
    by_cases h0 : l = []
    · subst h0
      simp only [if_neg (show ¬ ((B []).size : Int) > 0 by decide)]
      exact Ev.now _
    · have hp : 0 < l.length := List.length_pos_iff.2 h0
      unfold checkL
      simp only [if_pos (show ((B l).size : Int) > 0 by rw [B_size]; omega), if_neg h0]
      refine Ev.bind (first_ev l) ?_
      by_cases hz : (firstL l).2 = 0
      · simp only [if_pos hz, if_pos (show (firstL l).2 = 0 ∨ charB (firstL l).1 = false from .inl hz)]
        exact Ev.now _
      · obtain ⟨_, hb, e⟩ := first_ok hz
        have hw := wid_pos l
        have hl2 := wid_le l h0
        simp only [if_neg hz]
        refine Ev.bind (rchar_ev _) ?_
        by_cases hc : charB (firstL l).1 = true
        · simp only [if_pos hc, if_neg (show ¬ ((firstL l).2 = 0 ∨ charB (firstL l).1 = false) from fun h => h.elim hz (fun h => by rw [hc] at h; cases h))]
          rw [e]
          simp only [if_pos (show (0 : Int) ≤ ((decodeL l).2 : Int) by omega), if_pos (show ((decodeL l).2 : Int) ≤ ((B l).size : Int) by rw [B_size]; omega), Int.toNat_natCast, extract_tail]
          exact ih _ (by simp; omega)
        · have hc' : charB (firstL l).1 = false := by simpa using hc
          simp only [if_neg hc, if_pos (show (firstL l).2 = 0 ∨ charB (firstL l).1 = false from .inr hc')]
          exact Ev.now _
theorem rcheck_ev (l : Bs) : Ev (fun k => broadsheetref05_Check.f k (B l)) (checkL l.length l) := by
  unfold broadsheetref05_Check.f
  exact rcheck_l0 _ l (Nat.le_refl _)
theorem gcheck (l : Bs) (h : l.length ≤ 9223372036854775807) : glyph_Check.f (B l) = some (checkL l.length l) := by
  unfold glyph_Check.f
  rw [B_size, if_pos h, checkR_eq]

end Go.Proofs.YtldancekpigkaaaDoor.U
