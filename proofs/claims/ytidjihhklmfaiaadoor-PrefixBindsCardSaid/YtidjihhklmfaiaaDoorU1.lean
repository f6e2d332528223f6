/- Plain law, second part: plain line ends, as a function of a list of bytes. -/
import Derived.Test.YtidjihhklmfaiaaDoorU0
namespace Go.Proofs.YtidjihhklmfaiaaDoor.U
open Go.RowKit Go.Lib

theorem replaceK_miss (old new : Bs) (k : Nat) (s : Bs) (h : index s old = -1) : replaceK old new k s = s := by
  cases k with
  | zero => rfl
  | succ k => rw [replaceK, if_pos (by rw [h]; rfl)]
theorem replaceK_same {old new : Bs} (h0 : old ≠ []) : ∀ (n : Nat) (s : Bs), s.length ≤ n → ∀ k, count s old ≤ k → replaceK old new k s = replaceK old new (count s old) s := by
  intro n
  induction n with
  | zero =>
    intro s hs k _
    have : s = [] := List.eq_nil_of_length_eq_zero (by omega)
    subst this
    have hi : index [] old = -1 := by
      cases old with
      | nil => exact absurd rfl h0
      | cons a t => rfl
    rw [replaceK_miss _ _ _ _ hi, replaceK_miss _ _ _ _ hi]
  | succ n ih =>
    intro s hs k hk
    by_cases hi : index s old = -1
    · rw [replaceK_miss _ _ _ _ hi, replaceK_miss _ _ _ _ hi]
    · obtain ⟨i, hi⟩ : ∃ i : Nat, index s old = i := ⟨(index s old).toNat, by have := index_ge s old; omega⟩
      have hc := count_hit h0 hi
      obtain ⟨k, rfl⟩ : ∃ m, k = m + 1 := ⟨k - 1, by omega⟩
      have hroom := index_room s old (by omega)
      have hpos : 0 < old.length := List.length_pos_iff.2 h0
      rw [replaceK_hit _ _ _ _ i hi, hc, Nat.add_comm 1, replaceK_hit _ _ _ _ i hi, ih _ (by simp; omega) k (by omega)]

theorem ra_eq {old new : Bs} (hne : old ≠ new) (s : Bs) : replaceAll s old new = replaceK old new (count s old) s := by
  unfold replaceAll replace replaceNum
  rw [if_neg (by simpa using hne), if_pos (by left; decide)]
theorem ra_miss {old new s : Bs} (hne : old ≠ new) (h : index s old = -1) : replaceAll s old new = s := by
  rw [ra_eq hne, replaceK_miss _ _ _ _ h]
theorem ra_hit {old new s : Bs} (h0 : old ≠ []) (hne : old ≠ new) {i : Nat} (h : index s old = i) : replaceAll s old new = s.take i ++ new ++ replaceAll (s.drop (i + old.length)) old new := by
  rw [ra_eq hne, ra_eq hne, count_hit h0 h, Nat.add_comm 1, replaceK_hit _ _ _ _ i h]
theorem ra_nil {old new : Bs} (h0 : old ≠ []) (hne : old ≠ new) : replaceAll [] old new = [] := by
  refine ra_miss hne ?_
  cases old with
  | nil => exact absurd rfl h0
  | cons a t => rfl
theorem ra_cons_hit {old new : Bs} {c : UInt8} {t : Bs} (h0 : old ≠ []) (hne : old ≠ new) (h : old.isPrefixOf (c :: t) = true) : replaceAll (c :: t) old new = new ++ replaceAll ((c :: t).drop old.length) old new := by
  have hi : index (c :: t) old = ((0 : Nat) : Int) := by unfold index; rw [if_pos h]; rfl
  rw [ra_hit h0 hne hi]
  simp
theorem ra_cons_miss {old new : Bs} {c : UInt8} {t : Bs} (h0 : old ≠ []) (hne : old ≠ new) (h : old.isPrefixOf (c :: t) = false) : replaceAll (c :: t) old new = c :: replaceAll t old new := by
  by_cases hi : index t old = -1
  · have : index (c :: t) old = -1 := by unfold index; rw [h, hi]; rfl
    rw [ra_miss hne this, ra_miss hne hi]
  · obtain ⟨i, hi⟩ : ∃ i : Nat, index t old = i := ⟨(index t old).toNat, by have := index_ge t old; omega⟩
    have hi' : index (c :: t) old = ((i + 1 : Nat) : Int) := by
      unfold index
      rw [h, hi]
      have : ((i : Int) == -1) = false := by rw [beq_eq_false_iff_ne]; omega
      simp [this]
    rw [ra_hit h0 hne hi', ra_hit h0 hne hi, show i + 1 + old.length = (i + old.length) + 1 by omega]
    simp

/-- Plain line ends. -/
def linesL : Bs → Bs
  | [] => []
  | [c] => if c = 13 then [10] else [c]
  | c :: d :: t => if c = 13 then (if d = 10 then 10 :: linesL t else 10 :: linesL (d :: t)) else c :: linesL (d :: t)
theorem linesL_cons_ne (c : UInt8) (t : Bs) (h : c ≠ 13) : linesL (c :: t) = c :: linesL t := by
  cases t with
  | nil => simp [linesL, h]
  | cons d t => simp [linesL, h]
theorem linesL_crlf (t : Bs) : linesL (13 :: 10 :: t) = 10 :: linesL t := by simp [linesL]
theorem linesL_cr (d : UInt8) (t : Bs) (h : d ≠ 10) : linesL (13 :: d :: t) = 10 :: linesL (d :: t) := by simp [linesL, h]
theorem linesL_cr_end : linesL [13] = [10] := by simp [linesL]

theorem ra_both : ∀ (n : Nat) (l : Bs), l.length ≤ n → replaceAll (replaceAll l [13, 10] [10]) [13] [10] = linesL l := by
  have a0 : ([13, 10] : Bs) ≠ [] := by decide
  have a1 : ([13, 10] : Bs) ≠ [10] := by decide
  have b0 : ([13] : Bs) ≠ [] := by decide
  have b1 : ([13] : Bs) ≠ [10] := by decide
  intro n
  induction n with
  | zero =>
    intro l hl
    have : l = [] := List.eq_nil_of_length_eq_zero (by omega)
    subst this
    rw [ra_nil a0 a1, ra_nil b0 b1]
    rfl
  | succ n ih =>
    intro l hl
    match l, hl with
    | [], _ => rw [ra_nil a0 a1, ra_nil b0 b1]; rfl
    | c :: t, hl =>
      have hl' : t.length ≤ n := by simpa using hl
      by_cases hc : c = 13
      · subst hc
        match t, hl' with
        | [], _ =>
          rw [ra_cons_miss a0 a1 (by decide), ra_nil a0 a1, ra_cons_hit b0 b1 (by decide)]
          simp [ra_nil b0 b1, linesL]
        | d :: t, hl' =>
          by_cases hd : d = 10
          · subst hd
            rw [ra_cons_hit a0 a1 (by simp [List.isPrefixOf]), linesL_crlf]
            have : ([10] ++ replaceAll (List.drop [13, (10 : UInt8)].length (13 :: 10 :: t)) [13, 10] [10] : Bs) = 10 :: replaceAll t [13, 10] [10] := rfl
            rw [this, ra_cons_miss b0 b1 (by simp [List.isPrefixOf]), ih t (by simp at hl'; omega)]
          · rw [ra_cons_miss a0 a1 (by simp [List.isPrefixOf]; exact fun h => hd h.symm), ra_cons_hit b0 b1 (by simp [List.isPrefixOf]), linesL_cr d t hd]
            have : ([10] ++ replaceAll (List.drop [(13 : UInt8)].length (13 :: replaceAll (d :: t) [13, 10] [10])) [13] [10] : Bs) = 10 :: replaceAll (replaceAll (d :: t) [13, 10] [10]) [13] [10] := rfl
            rw [this, ih (d :: t) hl']
      · have hp : ([13, 10] : Bs).isPrefixOf (c :: t) = false := by
          simp [List.isPrefixOf]
          intro h
          exact absurd h.symm hc
        have hq : ∀ u : Bs, ([13] : Bs).isPrefixOf (c :: u) = false := by
          intro u
          simp [List.isPrefixOf]
          exact fun h => hc h.symm
        rw [ra_cons_miss a0 a1 hp, ra_cons_miss b0 b1 (hq _), linesL_cons_ne c t hc, ih t hl']

theorem linesL_length : ∀ (n : Nat) (l : Bs), l.length ≤ n → (linesL l).length ≤ l.length := by
  intro n
  induction n with
  | zero => intro l hl; have : l = [] := List.eq_nil_of_length_eq_zero (by omega); subst this; simp [linesL]
  | succ n ih =>
    intro l hl
    match l, hl with
    | [], _ => simp [linesL]
    | [c], _ => simp only [linesL]; split <;> simp
    | c :: d :: t, hl =>
      have h1 := ih (d :: t) (by simp at hl ⊢; omega)
      have h2 := ih t (by simp at hl; omega)
      simp only [linesL]
      repeat' split
      all_goals simp at h1 h2 ⊢
      all_goals omega
theorem linesL_no13 : ∀ (n : Nat) (l : Bs), l.length ≤ n → ∀ c ∈ linesL l, c ≠ 13 := by
  intro n
  induction n with
  | zero => intro l hl; have : l = [] := List.eq_nil_of_length_eq_zero (by omega); subst this; simp [linesL]
  | succ n ih =>
    intro l hl
    match l, hl with
    | [], _ => simp [linesL]
    | [c], _ => simp only [linesL]; split <;> simp_all
    | c :: d :: t, hl =>
      have h1 := ih (d :: t) (by simp at hl ⊢; omega)
      have h2 := ih t (by simp at hl; omega)
      simp only [linesL]
      repeat' split
      all_goals
        intro x hx
        rcases List.mem_cons.1 hx with rfl | hx
        · first | decide | assumption
        · first | exact h1 x hx | exact h2 x hx
theorem linesL_plain : ∀ (l : Bs), (∀ c ∈ l, c ≠ 13) → linesL l = l := by
  intro l
  induction l with
  | nil => intro _; rfl
  | cons c t ih =>
    intro h
    rw [linesL_cons_ne c t (h c (by simp)), ih (fun x hx => h x (by simp [hx]))]
theorem linesL_append : ∀ (n : Nat) (s t : Bs), s.length ≤ n → ¬ (s.getLast? = some 13 ∧ t.head? = some 10) → linesL (s ++ t) = linesL s ++ linesL t := by
  intro n
  induction n with
  | zero => intro s t hl _; have : s = [] := List.eq_nil_of_length_eq_zero (by omega); subst this; simp [linesL]
  | succ n ih =>
    intro s t hl hb
    match s, hl, hb with
    | [], _, _ => simp [linesL]
    | [c], _, hb =>
      by_cases hc : c = 13
      · subst hc
        match t, hb with
        | [], _ => simp [linesL]
        | d :: t, hb =>
          have hd : d ≠ 10 := by intro h; apply hb; simp [h]
          simp [linesL_cr d t hd, linesL_cr_end]
      · simp [linesL_cons_ne c _ hc]
        simp [linesL]
    | c :: d :: u, hl, hb =>
      have hb1 : ¬ ((d :: u).getLast? = some 13 ∧ t.head? = some 10) := by simpa using hb
      have h1 := ih (d :: u) t (by simp at hl ⊢; omega) hb1
      by_cases hc : c = 13
      · subst hc
        by_cases hd : d = 10
        · subst hd
          have hb2 : ¬ (u.getLast? = some 13 ∧ t.head? = some 10) := by
            rintro ⟨h1, h2⟩
            apply hb1
            refine ⟨?_, h2⟩
            cases u with
            | nil => simp at h1
            | cons x u => simpa using h1
          have h2 := ih u t (by simp at hl; omega) hb2
          simp only [List.cons_append, linesL_crlf, h2]
        · simp only [List.cons_append] at h1 ⊢
          rw [linesL_cr d _ hd, linesL_cr d _ hd, h1, List.cons_append]
      · simp only [List.cons_append] at h1 ⊢
        rw [linesL_cons_ne c _ hc, linesL_cons_ne c _ hc, h1, List.cons_append]
end Go.Proofs.YtidjihhklmfaiaaDoor.U
