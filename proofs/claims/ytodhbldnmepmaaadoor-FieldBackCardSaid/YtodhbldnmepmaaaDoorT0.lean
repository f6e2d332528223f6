/- Plain law: a tag at a text's head, as the document takes it. -/
import Derived.Test.YtodhbldnmepmaaaDoorXTag
namespace Go.Proofs.YtodhbldnmepmaaaDoor.T
open Go.Lib Go.Proofs.YtodhbldnmepmaaaDoor.X

abbrev Bs := List UInt8
def isIn (c : UInt8) : Bool := !(decide (c ≤ 32) || c == 34 || c == 127)
def takeR (l : Bs) : Option (Bool × Bs × Bs) :=
  match trimPrefix l [87, 47] with
  | [] => none
  | c :: t => if c = 34 then (match t.dropWhile isIn with | [] => none | d :: r => if d = 34 then some (hasPrefix l [87, 47], t.takeWhile isIn, r) else none) else none

theorem hp_one (l : Bs) (c : UInt8) : hasPrefix l [c] = (l.head? == some c) := by
  cases l with
  | nil => rfl
  | cons d t =>
    show (c == d && true) = (some d == some c)
    rw [Bool.and_true, Bool.eq_iff_iff, beq_iff_eq, beq_iff_eq]
    exact ⟨fun h => by rw [h], fun h => (Option.some.inj h).symm⟩
theorem tp_one (c : UInt8) (t : Bs) : trimPrefix (c :: t) [c] = t := by
  unfold trimPrefix
  rw [hp_one]
  simp
theorem idx_one : ∀ (l : Bs) (c : UInt8), index l [c] = if l.dropWhile (· != c) = [] then -1 else ((l.takeWhile (· != c)).length : Int) := by
  intro l c
  induction l with
  | nil => rfl
  | cons d t ih =>
    unfold index
    by_cases h : d = c
    · subst h
      simp [List.isPrefixOf]
    · have hb : [c].isPrefixOf (d :: t) = false := by
        simp [List.isPrefixOf]
        exact fun e => h e.symm
      rw [hb, ih]
      have hd : (d != c) = true := by simpa using h
      rw [List.dropWhile_cons, List.takeWhile_cons, hd]
      simp only [if_true, Bool.false_eq_true, if_false]
      by_cases hn : t.dropWhile (· != c) = []
      · simp [hn]
      · simp only [if_neg hn]
        have : (((t.takeWhile (· != c)).length : Int) == -1) = false := by rw [beq_eq_false_iff_ne]; omega
        simp [this]
theorem cut_one (l : Bs) (c : UInt8) : cut l [c] = if l.dropWhile (· != c) = [] then (l, [], false) else (l.takeWhile (· != c), (l.dropWhile (· != c)).tail, true) := by
  unfold cut
  rw [idx_one]
  by_cases hn : l.dropWhile (· != c) = []
  · simp [hn]
  · simp only [if_neg hn]
    rw [if_pos (by omega)]
    have e := List.takeWhile_append_dropWhile (p := (· != c)) (l := l)
    have h1 : l.take (l.takeWhile (· != c)).length = l.takeWhile (· != c) := by
      generalize l.takeWhile (· != c) = a at e ⊢
      generalize l.dropWhile (· != c) = b at e
      subst e
      rw [List.take_left]
    have h2 : l.drop ((l.takeWhile (· != c)).length + 1) = (l.dropWhile (· != c)).tail := by
      generalize l.takeWhile (· != c) = a at e ⊢
      generalize l.dropWhile (· != c) = b at e ⊢
      subst e
      rw [← List.drop_drop, List.drop_left]
      simp
    simp only [Int.toNat_natCast, List.length_singleton, h1, h2]

theorem isIn34 : isIn 34 = false := by decide
theorem tw_all (t : Bs) (h : innerB (t.takeWhile (· != 34)) = true) : t.takeWhile isIn = t.takeWhile (· != 34) ∧ t.dropWhile isIn = t.dropWhile (· != 34) := by
  induction t with
  | nil => exact ⟨rfl, rfl⟩
  | cons c t ih =>
    by_cases hc : c = 34
    · subst hc
      simp [isIn34]
    · have hd : (c != 34) = true := by simpa using hc
      rw [List.takeWhile_cons, hd] at h
      simp only [if_true] at h
      unfold innerB at h
      rw [List.all_cons, Bool.and_eq_true] at h
      have hi : isIn c = true := h.1
      have := ih h.2
      rw [List.takeWhile_cons, List.takeWhile_cons, List.dropWhile_cons, List.dropWhile_cons, hd, hi]
      simp [this.1, this.2]
theorem tw_not (t : Bs) (h : innerB (t.takeWhile (· != 34)) = false) : (t.dropWhile isIn).head? ≠ some 34 := by
  induction t with
  | nil => simp [innerB] at h
  | cons c t ih =>
    by_cases hc : c = 34
    · subst hc
      simp [innerB] at h
    · have hd : (c != 34) = true := by simpa using hc
      rw [List.takeWhile_cons, hd] at h
      simp only [if_true] at h
      unfold innerB at h
      rw [List.all_cons] at h
      cases hi : isIn c with
      | true =>
        rw [List.dropWhile_cons, hi]
        simp only [if_true]
        have hi2 : (!(decide (c ≤ 32) || c == 34 || c == 127)) = true := hi
        rw [hi2, Bool.true_and] at h
        exact ih h
      | false =>
        rw [List.dropWhile_cons, hi]
        simpa using hc
theorem tag_some {l : Bs} {w : Bool} {v r : Bs} (h : takeR l = some (w, v, r)) : tagL l = ⟨w, v, true, r⟩ := by
  unfold takeR at h
  unfold tagL
  split at h
  · cases h
  · rename_i c t ht
    split at h
    · rename_i hc
      subst hc
      rw [ht]
      split at h
      · cases h
      · rename_i d r' hr
        split at h
        · rename_i hd
          subst hd
          simp only [Option.some.injEq, Prod.mk.injEq] at h
          obtain ⟨rfl, rfl, rfl⟩ := h
          have hin : innerB (t.takeWhile (· != 34)) = true := by
            cases hq : innerB (t.takeWhile (· != 34)) with
            | true => rfl
            | false => exact absurd (by rw [hr]; rfl) (tw_not t hq)
          obtain ⟨e1, e2⟩ := tw_all t hin
          rw [hp_one, tp_one, cut_one]
          rw [← e2, hr, if_neg (List.cons_ne_nil _ _)]
          simp [e1, hin]
        · cases h
    · cases h
theorem tag_none {l : Bs} (h : takeR l = none) : (tagL l).ok = false := by
  unfold takeR at h
  unfold tagL
  split at h
  · rename_i ht
    rw [ht]
    rfl
  · rename_i c t ht
    rw [ht]
    split at h
    · rename_i hc
      subst hc
      rw [hp_one, tp_one, cut_one]
      simp only [List.head?_cons, beq_self_eq_true, if_true]
      by_cases hn : t.dropWhile (· != 34) = []
      · rw [if_pos hn]; rfl
      · rw [if_neg hn]
        simp only [Bool.true_and]
        cases hq : innerB (t.takeWhile (· != 34)) with
        | false => rfl
        | true =>
          exfalso
          obtain ⟨_, e2⟩ := tw_all t hq
          rw [e2] at h
          split at h
          · exact hn ‹_›
          · rename_i d r hr
            split at h
            · cases h
            · rename_i hd
              have h1 := List.head?_dropWhile_not (p := (· != 34)) (l := t)
              rw [hr] at h1
              simp at h1
              exact hd h1
    · rename_i hc
      rw [hp_one]
      rw [if_neg (by simpa using hc)]
theorem take_len {l : Bs} {w : Bool} {v r : Bs} (h : takeR l = some (w, v, r)) : r.length + v.length + 2 ≤ l.length := by
  unfold takeR at h
  split at h
  · cases h
  · rename_i c t ht
    have h0 : (trimPrefix l [87, 47]).length ≤ l.length := by
      unfold trimPrefix
      split
      · rw [List.length_drop]; omega
      · exact Nat.le_refl _
    rw [ht, List.length_cons] at h0
    split at h
    · split at h
      · cases h
      · rename_i d r' hr
        split at h
        · simp only [Option.some.injEq, Prod.mk.injEq] at h
          obtain ⟨_, rfl, rfl⟩ := h
          have e := congrArg List.length (List.takeWhile_append_dropWhile (p := isIn) (l := t))
          rw [List.length_append, hr, List.length_cons] at e
          omega
        · cases h
    · cases h
theorem tag_rest (l : Bs) (h : (tagL l).ok = true) : (tagL l).rest.length < l.length := by
  cases hr : takeR l with
  | none => rw [tag_none hr] at h; cases h
  | some x =>
    obtain ⟨w, v, r⟩ := x
    rw [tag_some hr]
    have := take_len hr
    show r.length < l.length
    omega

end Go.Proofs.YtodhbldnmepmaaaDoor.T
