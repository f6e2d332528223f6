/- Plain law: the list of tags is the document's. -/
import Derived.Test.YtodhbldnmepmaaaDoorXList
namespace Go.Proofs.YtodhbldnmepmaaaDoor.T
open Go.Lib Go.Proofs.YtodhbldnmepmaaaDoor.X Go.Proofs.YtodhbldnmepmaaaDoor.Pe
theorem hp44 (l : Bs) : hasPrefix l [44] = true ↔ ∃ t, l = 44 :: t := by
  rw [hp_one]
  cases l with
  | nil => simp
  | cons c t => simp
theorem commas_fuel : ∀ (f g : Nat) (l : Bs), l.length < f → l.length < g → commasN f l = commasN g l := by
  intro f
  induction f with
  | zero => intro g l h; omega
  | succ f ih =>
    intro g l h1 h2
    cases g with
    | zero => omega
    | succ g =>
      unfold commasN
      by_cases hc : hasPrefix l [44] = true
      · obtain ⟨t, rfl⟩ := (hp44 l).1 hc
        have hs : (skipL t).length ≤ t.length := by unfold skipL trimLeftS; exact (List.dropWhile_suffix _).length_le
        rw [if_pos hc, if_pos hc, tp_one]
        simp only [List.length_cons] at h1 h2
        rw [ih g (skipL t) (by omega) (by omega)]
      · rw [if_neg hc, if_neg hc]
theorem commas_len (f : Nat) : ∀ l : Bs, (commasN f l).2.length ≤ l.length := by
  induction f with
  | zero => intro l; exact Nat.le_refl _
  | succ f ih =>
    intro l
    unfold commasN
    by_cases hc : hasPrefix l [44] = true
    · obtain ⟨t, rfl⟩ := (hp44 l).1 hc
      rw [if_pos hc, tp_one]
      have hs : (skipL t).length ≤ t.length := by unfold skipL trimLeftS; exact (List.dropWhile_suffix _).length_le
      have := ih (skipL t)
      show (commasN f (skipL t)).2.length ≤ _
      rw [List.length_cons]
      omega
    · rw [if_neg hc]
      exact Nat.le_refl _
abbrev LR := List S24 × Bool × Int
def bad170 : LR := ([], false, 170)
def endR (acc : List S24) : LR := if acc = [] then bad170 else (acc, false, 0)
/-- The document's list, from where space is skipped. -/
def refN : Nat → Bs → List S24 → LR
  | 0, _, acc => (acc, false, 0)
  | f + 1, s, acc =>
    if (commasN (s.length + 1) s).2 = [] then endR acc
    else match takeR (commasN (s.length + 1) s).2 with
      | none => bad170
      | some (w, v, r) => if skipL r = [] ∨ (skipL r).head? = some 44 then refN f (skipL r) (acc ++ [⟨w, M v⟩]) else bad170
theorem skip_len (l : Bs) : (skipL l).length ≤ l.length := by unfold skipL trimLeftS; exact (List.dropWhile_suffix _).length_le
theorem list_ref : ∀ (f g : Nat) (c : Nat) (s : Bs) (acc : List S24), s.length < f → s.length < g → (c ≠ 0 ∨ s = [] ∨ s.head? = some 44) →
    listN g (c + (commasN (s.length + 1) s).1) (commasN (s.length + 1) s).2 acc = refN f s acc := by
  intro f
  induction f with
  | zero => intro g c s acc h; omega
  | succ f ih =>
    intro g c s acc h1 h2 h3
    cases g with
    | zero => omega
    | succ g =>
      unfold listN refN
      have hl := commas_len (s.length + 1) s
      by_cases he : (commasN (s.length + 1) s).2 = []
      · rw [if_pos he, if_pos he]
        rfl
      · rw [if_neg he, if_neg he]
        have hn : c + (commasN (s.length + 1) s).1 ≠ 0 := by
          rcases h3 with h3 | h3 | h3
          · omega
          · subst h3
            exact absurd rfl he
          · have : hasPrefix s [44] = true := by rw [hp_one, h3]; rfl
            unfold commasN
            rw [if_pos this]
            show c + (_ + 1) ≠ 0
            omega
        cases ht : takeR (commasN (s.length + 1) s).2 with
        | none =>
          rw [if_pos (.inl (tag_none ht))]
          rfl
        | some x =>
          obtain ⟨w, v, r⟩ := x
          have hlen := take_len ht
          rw [tag_some ht, if_neg (by intro h; rcases h with h | h; cases h; exact hn h)]
          have hs := skip_len r
          simp only
          rw [commas_fuel (r.length + 1) ((skipL r).length + 1) (skipL r) (by omega) (by omega)]
          by_cases hk : skipL r = [] ∨ (skipL r).head? = some 44
          · rw [if_pos hk]
            have := ih g 0 (skipL r) (acc ++ [⟨w, M v⟩]) (by omega) (by omega) (.inr hk)
            rw [Nat.zero_add] at this
            exact this
          · rw [if_neg hk]
            have hz : commasN ((skipL r).length + 1) (skipL r) = (0, skipL r) := by
              unfold commasN
              rw [if_neg]
              rw [hp_one]
              intro h
              exact hk (.inr (by simpa using h))
            rw [hz]
            cases g with
            | zero => omega
            | succ g =>
              unfold listN
              rw [if_neg (fun h => hk (.inl h)), if_pos (.inr rfl)]
              rfl
theorem dw_nil {p : UInt8 → Bool} (l : Bs) : l.dropWhile p = [] ↔ ∀ x ∈ l, p x = true := by
  induction l with
  | nil => simp
  | cons c t ih =>
    rw [List.dropWhile_cons]
    by_cases h : p c = true
    · rw [if_pos h, ih]
      simp [h]
    · rw [if_neg h]
      simp [h]
theorem trim_star (l : Bs) : trimS l [32, 9] = [42] ↔ ∃ t, skipL l = 42 :: t ∧ skipL t = [] := by
  have key : ∀ (l : Bs), trimRightS l [32, 9] = [] ↔ skipL l = [] := by
    intro l
    unfold trimRightS skipL trimLeftS
    rw [List.reverse_eq_nil_iff, dw_nil, dw_nil]
    simp
  have cons : ∀ (c : UInt8) (t : Bs), trimRightS (c :: t) [32, 9] = if trimRightS t [32, 9] = [] then (if [32, 9].contains c = true then [] else [c]) else c :: trimRightS t [32, 9] := by
    intro c t
    unfold trimRightS
    rw [List.reverse_cons, List.dropWhile_append]
    by_cases h : (t.reverse.dropWhile fun x => [32, 9].contains x) = []
    · rw [h]
      simp only [List.isEmpty_nil, if_true, List.reverse_nil]
      rw [List.dropWhile_cons]
      split
      · simp
      · simp
    · have h2 : (t.reverse.dropWhile fun x => [32, 9].contains x).isEmpty = false := by simpa using h
      rw [h2]
      simp only [Bool.false_eq_true, if_false]
      rw [if_neg (by simpa using h)]
      simp
  unfold trimS
  induction l with
  | nil => simp [trimRightS, skipL, trimLeftS]
  | cons c t ih =>
    rw [cons]
    by_cases hc : [32, 9].contains c = true
    · have e : skipL (c :: t) = skipL t := by unfold skipL trimLeftS; rw [List.dropWhile_cons, if_pos hc]
      rw [e]
      by_cases hn : trimRightS t [32, 9] = []
      · rw [if_pos hn, if_pos hc]
        have := (key t).1 hn
        rw [this]
        simp [trimLeftS]
      · rw [if_neg hn]
        refine Iff.trans ?_ ih
        unfold trimLeftS
        rw [List.dropWhile_cons, if_pos hc]
    · have e : skipL (c :: t) = c :: t := by unfold skipL trimLeftS; rw [List.dropWhile_cons, if_neg hc]
      rw [e]
      by_cases hn : trimRightS t [32, 9] = []
      · rw [if_pos hn, if_neg hc]
        have h1 := (key t).1 hn
        unfold trimLeftS
        rw [List.dropWhile_cons, if_neg hc]
        constructor
        · intro h
          cases h
          exact ⟨t, rfl, h1⟩
        · rintro ⟨t', h, _⟩
          cases h
          rfl
      · rw [if_neg hn]
        unfold trimLeftS
        rw [List.dropWhile_cons, if_neg hc]
        constructor
        · intro h
          injection h with h1 h2
          exact absurd h2 hn
        · rintro ⟨t', h, h2⟩
          cases h
          exact absurd ((key t).2 h2) hn
theorem star_dec (l : Bs) : (trimS l [32, 9] = [42]) ↔ ((skipL l).head? = some 42 ∧ skipL (skipL l).tail = []) := by
  rw [trim_star]
  constructor
  · rintro ⟨t, h, h2⟩
    rw [h]
    exact ⟨rfl, h2⟩
  · rintro ⟨h, h2⟩
    cases hs : skipL l with
    | nil => rw [hs] at h; cases h
    | cons c t =>
      rw [hs] at h h2
      cases h
      exact ⟨t, rfl, h2⟩
/-- The program's list is the document's. -/
theorem listV_eq (l : Bs) : listV l = if (skipL l).head? = some 42 ∧ skipL (skipL l).tail = [] then ([], true, 0) else refN ((skipL l).length + 1) (skipL l) [] := by
  unfold listV
  have hs := skip_len l
  by_cases h : trimS l [32, 9] = [42]
  · rw [if_pos h, if_pos ((star_dec l).1 h)]
  · rw [if_neg h, if_neg (fun h2 => h ((star_dec l).2 h2))]
    rw [commas_fuel (l.length + 1) ((skipL l).length + 1) (skipL l) (by omega) (by omega)]
    exact list_ref _ _ 1 (skipL l) [] (by omega) (by omega) (.inl (by decide))
end Go.Proofs.YtodhbldnmepmaaaDoor.T
