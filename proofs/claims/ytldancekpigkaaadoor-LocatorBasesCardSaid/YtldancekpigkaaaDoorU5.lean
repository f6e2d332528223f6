/- Plain law, sixth part: the document's answers on texts: the code point at the head, which text may be, plain lines, the name. -/
import Derived.Test.YtldancekpigkaaaDoorU3
namespace Go.Proofs.YtldancekpigkaaaDoor.U
open Go.RowKit Go.Lib Go.Proofs.YtldancekpigkaaaDoorW.PrintWords Go.Proofs.YtldancekpigkaaaDoor.X Go.Proofs.YtldancekpigkaaaDoor.Pl

theorem bt_nb (l : Bs) (i : Nat) (h : i < l.length) : bt (B l) (i : Int) = (nb l i : Int) := by
  rw [B_bt l i h]
  unfold nb
  rw [List.getD_eq_getElem?_getD, List.getElem?_eq_getElem h]
  rfl
theorem bt_nb0 (l : Bs) (h : 0 < l.length) : bt (B l) 0 = (nb l 0 : Int) := bt_nb l 0 h
theorem bt_nb1 (l : Bs) (h : 1 < l.length) : bt (B l) 1 = (nb l 1 : Int) := bt_nb l 1 h
theorem bt_nb2 (l : Bs) (h : 2 < l.length) : bt (B l) 2 = (nb l 2 : Int) := bt_nb l 2 h
theorem bt_nb3 (l : Bs) (h : 3 < l.length) : bt (B l) 3 = (nb l 3 : Int) := bt_nb l 3 h
theorem w_nb (l : Bs) (i : Nat) : wrap64 (nb l i : Int) = (nb l i : Int) := w64 (by have := nb_lt l i; omega) (by have := nb_lt l i; omega)

/-- The three rounds of the document's answer at n bytes. -/
def restN (n : Nat) (c least : Int) (b1 b2 b3 : Nat) : Int × Int :=
  if (b1 < 128 ∨ 191 < b1) then (0, 0)
  else if n = 2 then fin (c * 64 + b1 - 128) 2
  else if (b2 < 128 ∨ 191 < b2) then (0, 0)
  else if n = 3 then fin ((c * 64 + b1 - 128) * 64 + b2 - 128) 3
  else if (b3 < 128 ∨ 191 < b3) then (0, 0)
  else fin (((c * 64 + b1 - 128) * 64 + b2 - 128) * 64 + b3 - 128) 4
where fin (v : Int) (n : Int) : Int × Int := if v < least then (0, 0) else if v > 1114111 then (0, 0) else if v ≥ 55296 ∧ v ≤ 57343 then (0, 0) else (v, n)

theorem fin_ev (s : ByteArray) (c least : Int) (n : Nat) (i : Nat) (hi : ¬ i < n) : Ev (fun k => broadsheetref05_First.l0 k s (n : Int) c least (i : Int)) (restN.fin least c (n : Int)) := by
  refine Ev.step (fun k => (show broadsheetref05_First.l0 (k + 1) s n c least i = _ from by rw [broadsheetref05_First.l0])) ?_
  simp only [if_neg (show ¬ (i : Int) < (n : Int) by omega)]
  unfold restN.fin
  by_cases h1 : c < least
  · simp only [if_pos h1]; exact Ev.now _
  · simp only [if_neg h1]
    by_cases h2 : c > 1114111
    · simp only [if_pos h2]; exact Ev.now _
    · simp only [if_neg h2]
      by_cases h3 : c ≥ 55296
      · simp only [if_pos h3]
        by_cases h4 : c ≤ 57343
        · simp only [if_pos h4, if_pos (show c ≥ 55296 ∧ c ≤ 57343 from ⟨h3, h4⟩)]; exact Ev.now _
        · simp only [if_neg h4, if_neg (show ¬ (c ≥ 55296 ∧ c ≤ 57343) from fun h => h4 h.2)]; exact Ev.now _
      · simp only [if_neg h3, if_neg (show ¬ (c ≥ 55296 ∧ c ≤ 57343) from fun h => h3 h.1)]; exact Ev.now _
theorem step_ev (l : Bs) (c least : Int) (n i : Nat) (hi : i < n) (hl : n ≤ l.length) (h0 : i < 4) (hc0 : 0 ≤ c) (hc1 : c ≤ 1000000) (R : Int × Int)
    (hbad : (nb l i < 128 ∨ 191 < nb l i) → R = (0, 0))
    (hgood : 128 ≤ nb l i → nb l i ≤ 191 → Ev (fun k => broadsheetref05_First.l0 k (B l) (n : Int) (c * 64 + nb l i - 128) least ((i + 1 : Nat) : Int)) R) :
    Ev (fun k => broadsheetref05_First.l0 k (B l) (n : Int) c least (i : Int)) R := by
  have hb := nb_lt l i
  refine Ev.step (fun k => (show broadsheetref05_First.l0 (k + 1) (B l) n c least i = _ from by rw [broadsheetref05_First.l0])) ?_
  have e1 : wrap64 ((i : Int) + 1) = ((i + 1 : Nat) : Int) := by rw [w64 (by omega) (by omega)]; rfl
  have e2 : wrap64 (wrap64 (wrap64 (c * 64) + (nb l i : Int)) - 128) = c * 64 + nb l i - 128 := by
    rw [w64 (x := c * 64) (by omega) (by omega), w64 (x := c * 64 + (nb l i : Int)) (by omega) (by omega), w64 (by omega) (by omega)]
  simp only [if_pos (show (i : Int) < (n : Int) by omega), if_pos (show (0 : Int) ≤ (i : Int) by omega), B_size, if_pos (show (i : Int) < (l.length : Int) by omega), bt_nb l i (by omega), w_nb, e1, e2]
  by_cases h1 : nb l i < 128
  · simp only [if_pos (show (nb l i : Int) < 128 by omega)]
    rw [hbad (.inl h1)]
    exact Ev.now _
  · simp only [if_neg (show ¬ (nb l i : Int) < 128 by omega)]
    by_cases h2 : 191 < nb l i
    · simp only [if_pos (show (nb l i : Int) > 191 by omega)]
      rw [hbad (.inr h2)]
      exact Ev.now _
    · simp only [if_neg (show ¬ (nb l i : Int) > 191 by omega)]
      exact hgood (by omega) (by omega)
theorem rest_ev (l : Bs) (c least : Int) (n : Nat) (hn2 : 2 ≤ n) (hn : n ≤ 4) (hc0 : 0 ≤ c) (hc1 : c ≤ 31) :
    Ev (fun k => broadsheetref05_First.j2 k (B l) (n : Int) c least) (if l.length < n then (0, 0) else restN n c least (nb l 1) (nb l 2) (nb l 3)) := by
  refine Ev.step (fun k => (show broadsheetref05_First.j2 (k + 1) (B l) n c least = _ from by rw [broadsheetref05_First.j2])) ?_
  rw [B_size]
  by_cases hl : l.length < n
  · simp only [if_pos (show (l.length : Int) < (n : Int) by omega), if_pos hl]
    exact Ev.now _
  · simp only [if_neg (show ¬ (l.length : Int) < (n : Int) by omega), if_neg hl]
    have b1 := nb_lt l 1
    have b2 := nb_lt l 2
    refine step_ev l c least n 1 (by omega) (by omega) (by omega) hc0 (by omega) _ (fun h => by unfold restN; rw [if_pos h]) (fun h1 h2 => ?_)
    have k1 : ¬ (nb l 1 < 128 ∨ 191 < nb l 1) := by omega
    by_cases e2 : n = 2
    · subst e2
      have := fin_ev (B l) (c * 64 + nb l 1 - 128) least 2 2 (by omega)
      unfold restN
      rw [if_neg k1, if_pos rfl]
      exact this
    · refine step_ev l _ least n 2 (by omega) (by omega) (by omega) (by omega) (by omega) _ (fun h => by unfold restN; rw [if_neg k1, if_neg e2, if_pos h]) (fun h3 h4 => ?_)
      have k2 : ¬ (nb l 2 < 128 ∨ 191 < nb l 2) := by omega
      by_cases e3 : n = 3
      · subst e3
        have := fin_ev (B l) ((c * 64 + nb l 1 - 128) * 64 + nb l 2 - 128) least 3 3 (by omega)
        unfold restN
        rw [if_neg k1, if_neg e2, if_neg k2, if_pos rfl]
        exact this
      · obtain rfl : n = 4 := by omega
        refine step_ev l _ least 4 3 (by omega) (by omega) (by omega) (by omega) (by omega) _ (fun h => by unfold restN; rw [if_neg k1, if_neg e2, if_neg k2, if_neg e3, if_pos h]) (fun h5 h6 => ?_)
        have k3 : ¬ (nb l 3 < 128 ∨ 191 < nb l 3) := by omega
        have := fin_ev (B l) (((c * 64 + nb l 1 - 128) * 64 + nb l 2 - 128) * 64 + nb l 3 - 128) least 4 4 (by omega)
        unfold restN
        rw [if_neg k1, if_neg e2, if_neg k2, if_neg e3, if_neg k3]
        exact this

set_option maxHeartbeats 1000000 in
theorem first_two (l : Bs) (h0 : l ≠ []) (h1 : 192 ≤ nb l 0) (h2 : nb l 0 < 224) : firstL l = if l.length < 2 then (0, 0) else restN 2 ((nb l 0 : Int) - 192) 128 (nb l 1) (nb l 2) (nb l 3) := by
  have l1 := nb_lt l 1
  have hp : 0 < l.length := List.length_pos_iff.2 h0
  unfold firstL restN restN.fin
  rw [if_neg h0, decodeL_eq]
  generalize nb l 0 = b0 at *
  generalize nb l 1 = b1 at *
  generalize nb l 2 = b2 at *
  generalize nb l 3 = b3 at *
  generalize l.length = n at *
  have e0 : ¬ b0 < 128 := by omega
  by_cases hc : b0 / 32 = 6 ∧ (1 < n ∧ b1 / 64 = 2)
  · by_cases hd : b0 % 32 * 64 + b1 % 64 ≥ 128
    · have e : decodeN n b0 b1 b2 b3 = (b0 % 32 * 64 + b1 % 64, 2) := by unfold decodeN; rw [if_neg e0, if_pos hc, if_pos hd]
      rw [e]
      simp only [if_neg (show ¬ (b0 % 32 * 64 + b1 % 64 = 65533 ∧ 2 = 1) by omega), if_neg (show ¬ n < 2 by omega), if_neg (show ¬ (b1 < 128 ∨ 191 < b1) by omega), if_true, if_neg (show ¬ ((b0 : Int) - 192) * 64 + b1 - 128 < 128 by omega), if_neg (show ¬ ((b0 : Int) - 192) * 64 + b1 - 128 > 1114111 by omega), if_neg (show ¬ (((b0 : Int) - 192) * 64 + b1 - 128 ≥ 55296 ∧ ((b0 : Int) - 192) * 64 + b1 - 128 ≤ 57343) by omega)]
      refine Prod.ext ?_ ?_
      · simp only; omega
      · rfl
    · have e : decodeN n b0 b1 b2 b3 = (65533, 1) := by unfold decodeN; rw [if_neg e0, if_pos hc, if_neg hd]
      rw [e]
      simp only [if_neg (show ¬ n < 2 by omega), if_neg (show ¬ (b1 < 128 ∨ 191 < b1) by omega), if_true, and_self, if_pos (show ((b0 : Int) - 192) * 64 + b1 - 128 < 128 by omega)]
  · have e : decodeN n b0 b1 b2 b3 = (65533, 1) := by unfold decodeN; rw [if_neg e0, if_neg hc, if_neg (by omega), if_neg (by omega)]
    rw [e]
    simp only [and_self, if_true]
    by_cases hn : n < 2
    · simp only [if_pos hn]
    · simp only [if_neg hn, if_pos (show b1 < 128 ∨ 191 < b1 by omega)]
set_option maxHeartbeats 1000000 in
theorem first_three (l : Bs) (h0 : l ≠ []) (h1 : 224 ≤ nb l 0) (h2 : nb l 0 < 240) : firstL l = if l.length < 3 then (0, 0) else restN 3 ((nb l 0 : Int) - 224) 2048 (nb l 1) (nb l 2) (nb l 3) := by
  have l1 := nb_lt l 1
  have l2 := nb_lt l 2
  have hp : 0 < l.length := List.length_pos_iff.2 h0
  unfold firstL restN restN.fin
  rw [if_neg h0, decodeL_eq]
  generalize nb l 0 = b0 at *
  generalize nb l 1 = b1 at *
  generalize nb l 2 = b2 at *
  generalize nb l 3 = b3 at *
  generalize l.length = n at *
  have e0 : ¬ b0 < 128 := by omega
  have e1 : ¬ (b0 / 32 = 6 ∧ (1 < n ∧ b1 / 64 = 2)) := by omega
  have n32 : ¬ (3 : Nat) = 2 := by omega
  by_cases hc : b0 / 16 = 14 ∧ (1 < n ∧ b1 / 64 = 2) ∧ (2 < n ∧ b2 / 64 = 2)
  · have hb1 : ¬ (b1 < 128 ∨ 191 < b1) := by omega
    have hb2 : ¬ (b2 < 128 ∨ 191 < b2) := by omega
    by_cases hd : b0 % 16 * 4096 + b1 % 64 * 64 + b2 % 64 ≥ 2048 ∧ (b0 % 16 * 4096 + b1 % 64 * 64 + b2 % 64 < 55296 ∨ (57344 ≤ b0 % 16 * 4096 + b1 % 64 * 64 + b2 % 64 ∧ b0 % 16 * 4096 + b1 % 64 * 64 + b2 % 64 ≤ 1114111))
    · have e : decodeN n b0 b1 b2 b3 = (b0 % 16 * 4096 + b1 % 64 * 64 + b2 % 64, 3) := by unfold decodeN; rw [if_neg e0, if_neg e1, if_pos hc, if_pos hd]
      rw [e]
      simp only [if_neg (show ¬ (b0 % 16 * 4096 + b1 % 64 * 64 + b2 % 64 = 65533 ∧ 3 = 1) by omega), if_neg (show ¬ n < 3 by omega), if_neg hb1, if_neg n32, if_neg hb2, if_true, if_neg (show ¬ (((b0 : Int) - 224) * 64 + b1 - 128) * 64 + b2 - 128 < 2048 by omega), if_neg (show ¬ (((b0 : Int) - 224) * 64 + b1 - 128) * 64 + b2 - 128 > 1114111 by omega), if_neg (show ¬ ((((b0 : Int) - 224) * 64 + b1 - 128) * 64 + b2 - 128 ≥ 55296 ∧ (((b0 : Int) - 224) * 64 + b1 - 128) * 64 + b2 - 128 ≤ 57343) by omega)]
      refine Prod.ext ?_ ?_
      · simp only; omega
      · rfl
    · have e : decodeN n b0 b1 b2 b3 = (65533, 1) := by unfold decodeN; rw [if_neg e0, if_neg e1, if_pos hc, if_neg hd]
      rw [e]
      simp only [if_neg (show ¬ n < 3 by omega), if_neg hb1, if_neg n32, if_neg hb2, if_true, and_self]
      by_cases he : (((b0 : Int) - 224) * 64 + b1 - 128) * 64 + b2 - 128 < 2048
      · simp only [if_pos he]
      · simp only [if_neg he, if_neg (show ¬ (((b0 : Int) - 224) * 64 + b1 - 128) * 64 + b2 - 128 > 1114111 by omega), if_pos (show ((((b0 : Int) - 224) * 64 + b1 - 128) * 64 + b2 - 128 ≥ 55296 ∧ (((b0 : Int) - 224) * 64 + b1 - 128) * 64 + b2 - 128 ≤ 57343) by omega)]
  · have e : decodeN n b0 b1 b2 b3 = (65533, 1) := by unfold decodeN; rw [if_neg e0, if_neg e1, if_neg hc, if_neg (by omega)]
    rw [e]
    simp only [and_self, if_true]
    by_cases hn : n < 3
    · simp only [if_pos hn]
    · simp only [if_neg hn, if_neg n32]
      by_cases hb : b1 < 128 ∨ 191 < b1
      · simp only [if_pos hb]
      · simp only [if_neg hb, if_pos (show b2 < 128 ∨ 191 < b2 by omega)]
set_option maxHeartbeats 1000000 in
theorem first_four (l : Bs) (h0 : l ≠ []) (h1 : 240 ≤ nb l 0) (h2 : nb l 0 < 248) : firstL l = if l.length < 4 then (0, 0) else restN 4 ((nb l 0 : Int) - 240) 65536 (nb l 1) (nb l 2) (nb l 3) := by
  have l1 := nb_lt l 1
  have l2 := nb_lt l 2
  have l3 := nb_lt l 3
  have hp : 0 < l.length := List.length_pos_iff.2 h0
  unfold firstL restN restN.fin
  rw [if_neg h0, decodeL_eq]
  generalize nb l 0 = b0 at *
  generalize nb l 1 = b1 at *
  generalize nb l 2 = b2 at *
  generalize nb l 3 = b3 at *
  generalize l.length = n at *
  have e0 : ¬ b0 < 128 := by omega
  have e1 : ¬ (b0 / 32 = 6 ∧ (1 < n ∧ b1 / 64 = 2)) := by omega
  have e2 : ¬ (b0 / 16 = 14 ∧ (1 < n ∧ b1 / 64 = 2) ∧ (2 < n ∧ b2 / 64 = 2)) := by omega
  have n42 : ¬ (4 : Nat) = 2 := by omega
  have n43 : ¬ (4 : Nat) = 3 := by omega
  by_cases hc : b0 / 8 = 30 ∧ (1 < n ∧ b1 / 64 = 2) ∧ (2 < n ∧ b2 / 64 = 2) ∧ (3 < n ∧ b3 / 64 = 2)
  · have hb1 : ¬ (b1 < 128 ∨ 191 < b1) := by omega
    have hb2 : ¬ (b2 < 128 ∨ 191 < b2) := by omega
    have hb3 : ¬ (b3 < 128 ∨ 191 < b3) := by omega
    by_cases hd : b0 % 8 * 262144 + b1 % 64 * 4096 + b2 % 64 * 64 + b3 % 64 ≥ 65536 ∧ (b0 % 8 * 262144 + b1 % 64 * 4096 + b2 % 64 * 64 + b3 % 64 < 55296 ∨ (57344 ≤ b0 % 8 * 262144 + b1 % 64 * 4096 + b2 % 64 * 64 + b3 % 64 ∧ b0 % 8 * 262144 + b1 % 64 * 4096 + b2 % 64 * 64 + b3 % 64 ≤ 1114111))
    · have e : decodeN n b0 b1 b2 b3 = (b0 % 8 * 262144 + b1 % 64 * 4096 + b2 % 64 * 64 + b3 % 64, 4) := by unfold decodeN; rw [if_neg e0, if_neg e1, if_neg e2, if_pos hc, if_pos hd]
      rw [e]
      simp only [if_neg (show ¬ (b0 % 8 * 262144 + b1 % 64 * 4096 + b2 % 64 * 64 + b3 % 64 = 65533 ∧ 4 = 1) by omega), if_neg (show ¬ n < 4 by omega), if_neg hb1, if_neg n42, if_neg hb2, if_neg n43, if_neg hb3, if_neg (show ¬ ((((b0 : Int) - 240) * 64 + b1 - 128) * 64 + b2 - 128) * 64 + b3 - 128 < 65536 by omega), if_neg (show ¬ ((((b0 : Int) - 240) * 64 + b1 - 128) * 64 + b2 - 128) * 64 + b3 - 128 > 1114111 by omega), if_neg (show ¬ (((((b0 : Int) - 240) * 64 + b1 - 128) * 64 + b2 - 128) * 64 + b3 - 128 ≥ 55296 ∧ ((((b0 : Int) - 240) * 64 + b1 - 128) * 64 + b2 - 128) * 64 + b3 - 128 ≤ 57343) by omega)]
      refine Prod.ext ?_ ?_
      · simp only; omega
      · rfl
    · have e : decodeN n b0 b1 b2 b3 = (65533, 1) := by unfold decodeN; rw [if_neg e0, if_neg e1, if_neg e2, if_pos hc, if_neg hd]
      rw [e]
      simp only [if_neg (show ¬ n < 4 by omega), if_neg hb1, if_neg n42, if_neg hb2, if_neg n43, if_neg hb3, if_true, and_self]
      by_cases he : ((((b0 : Int) - 240) * 64 + b1 - 128) * 64 + b2 - 128) * 64 + b3 - 128 < 65536
      · simp only [if_pos he]
      · simp only [if_neg he, if_pos (show ((((b0 : Int) - 240) * 64 + b1 - 128) * 64 + b2 - 128) * 64 + b3 - 128 > 1114111 by omega)]
  · have e : decodeN n b0 b1 b2 b3 = (65533, 1) := by unfold decodeN; rw [if_neg e0, if_neg e1, if_neg e2, if_neg hc]
    rw [e]
    simp only [and_self, if_true]
    by_cases hn : n < 4
    · simp only [if_pos hn]
    · simp only [if_neg hn, if_neg n42, if_neg n43]
      by_cases hb : b1 < 128 ∨ 191 < b1
      · simp only [if_pos hb]
      · by_cases hb2 : b2 < 128 ∨ 191 < b2
        · simp only [if_neg hb, if_pos hb2]
        · simp only [if_neg hb, if_neg hb2, if_pos (show b3 < 128 ∨ 191 < b3 by omega)]
theorem first_bad (l : Bs) (h1 : 128 ≤ nb l 0) (h2 : nb l 0 < 192 ∨ 248 ≤ nb l 0) : firstL l = (0, 0) := by
  have l0 := nb_lt l 0
  apply firstL_bad
  unfold bad
  rw [decodeL_eq]
  unfold decodeN
  rw [if_neg (by omega), if_neg (by omega), if_neg (by omega), if_neg (by omega)]
  exact ⟨rfl, rfl⟩

theorem first_ev (l : Bs) : Ev (fun k => broadsheetref05_First.f k (B l)) (firstL l) := by
  unfold broadsheetref05_First.f
  by_cases h0 : l = []
  · subst h0
    simp only [if_pos (show (B []).toList = ([] : List UInt8) from B_toList [])]
    exact Ev.now _
  · have hp : 0 < l.length := List.length_pos_iff.2 h0
    have lt := nb_lt l 0
    simp only [B_toList, if_neg h0, B_size, if_pos (show (0 : Int) < (l.length : Int) by omega), bt_nb0 l hp, w_nb]
    by_cases h1 : nb l 0 < 128
    · simp only [if_pos (show (nb l 0 : Int) < 128 by omega)]
      have : firstL l = ((nb l 0 : Int), 1) := by
        have e : decodeL l = (nb l 0, 1) := by rw [decodeL_eq]; unfold decodeN; rw [if_pos h1]
        rw [firstL_good h0 (by unfold bad; rw [e]; simp; omega), e]
        rfl
      rw [this]
      exact Ev.now _
    · simp only [if_neg (show ¬ (nb l 0 : Int) < 128 by omega)]
      by_cases h2 : 192 ≤ nb l 0
      · simp only [if_pos (show (nb l 0 : Int) ≥ 192 by omega)]
        by_cases h3 : nb l 0 < 224
        · refine Ev.step (fun k => (show broadsheetref05_First.j0 (k + 1) (B l) (nb l 0) _ = _ from by rw [broadsheetref05_First.j0])) ?_
          simp only [decide_eq_true (show (nb l 0 : Int) < 224 by omega), if_true, w64 (x := (nb l 0 : Int) - 192) (by omega) (by omega)]
          rw [first_two l h0 h2 h3]
          exact rest_ev l _ 128 2 (by omega) (by omega) (by omega) (by omega)
        · refine Ev.step (fun k => (show broadsheetref05_First.j0 (k + 1) (B l) (nb l 0) _ = _ from by rw [broadsheetref05_First.j0])) ?_
          simp only [decide_eq_false (show ¬ (nb l 0 : Int) < 224 by omega), Bool.false_eq_true, if_false, if_pos (show (nb l 0 : Int) ≥ 224 by omega)]
          refine Ev.step (fun k => (show broadsheetref05_First.j1 (k + 1) (B l) (nb l 0) _ = _ from by rw [broadsheetref05_First.j1])) ?_
          by_cases h4 : nb l 0 < 240
          · simp only [decide_eq_true (show (nb l 0 : Int) < 240 by omega), if_true, w64 (x := (nb l 0 : Int) - 224) (by omega) (by omega)]
            rw [first_three l h0 (by omega) h4]
            exact rest_ev l _ 2048 3 (by omega) (by omega) (by omega) (by omega)
          · simp only [decide_eq_false (show ¬ (nb l 0 : Int) < 240 by omega), Bool.false_eq_true, if_false, if_pos (show (nb l 0 : Int) ≥ 240 by omega)]
            by_cases h5 : nb l 0 < 248
            · simp only [if_pos (show (nb l 0 : Int) < 248 by omega), w64 (x := (nb l 0 : Int) - 240) (by omega) (by omega)]
              rw [first_four l h0 (by omega) h5]
              exact rest_ev l _ 65536 4 (by omega) (by omega) (by omega) (by omega)
            · simp only [if_neg (show ¬ (nb l 0 : Int) < 248 by omega)]
              rw [first_bad l (by omega) (by omega)]
              exact Ev.now _
      · simp only [if_neg (show ¬ (nb l 0 : Int) ≥ 192 by omega)]
        rw [first_bad l (by omega) (by omega)]
        refine Ev.step (fun k => (show broadsheetref05_First.j0 (k + 1) (B l) (nb l 0) _ = _ from by rw [broadsheetref05_First.j0])) ?_
        simp only [Bool.false_eq_true, if_false, if_neg (show ¬ (nb l 0 : Int) ≥ 224 by omega)]
        refine Ev.step (fun k => (show broadsheetref05_First.j1 (k + 1) (B l) (nb l 0) _ = _ from by rw [broadsheetref05_First.j1])) ?_
        simp only [Bool.false_eq_true, if_false, if_neg (show ¬ (nb l 0 : Int) ≥ 240 by omega)]
        exact Ev.now _
end Go.Proofs.YtldancekpigkaaaDoor.U
