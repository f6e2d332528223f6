/- Plain law: what is told is one tag of a list, with space and commas about it, too (ETagBack). -/
import Derived.Test.YtodhbldnmepmaaaDoorT4
import Derived.Test.YtodhbldnmepmaaaDoorPe6
namespace Go.Proofs.YtodhbldnmepmaaaDoor.Pure
open Go.RowKit Go.Lib Go.Proofs.YtodhbldnmepmaaaDoorW.PrintWords Go.Proofs.YtodhbldnmepmaaaDoor.X Go.Proofs.YtodhbldnmepmaaaDoor.Pe Go.Proofs.YtodhbldnmepmaaaDoor.T
open Go.Proofs.YtodhbldnmepmaaaDoor.U hiding Bs
set_option linter.unusedSimpArgs false

/-- Commas and space ahead, taken off. -/
def strip (s : Bs) : Bs := (commasN (s.length + 1) s).2
theorem strip_nil : strip [] = [] := rfl
theorem strip_comma (t : Bs) : strip (44 :: t) = strip (skipL t) := by
  unfold strip
  rw [List.length_cons, commas_cons]
  have := skip_len t
  rw [commas_fuel (t.length + 1) ((skipL t).length + 1) (skipL t) (by omega) (by omega)]
theorem strip_ne (c : UInt8) (t : Bs) (h : c ≠ 44) : strip (c :: t) = c :: t := by
  unfold strip
  rw [List.length_cons]
  exact commas_ne _ c t h
theorem print_cons (w : Bool) (v r : Bs) : ∃ c t, printL w v ++ r = c :: t ∧ (c = 87 ∨ c = 34) := by
  unfold printL
  cases w with
  | true => exact ⟨87, 47 :: 34 :: v ++ [34] ++ r, by simp, .inl rfl⟩
  | false => exact ⟨34, v ++ [34] ++ r, by simp, .inr rfl⟩
theorem strip_print (w : Bool) (v r : Bs) : strip (printL w v ++ r) = printL w v ++ r := by
  obtain ⟨c, t, e, h⟩ := print_cons w v r
  rw [e]
  exact strip_ne c t (by rcases h with rfl | rfl <;> decide)
theorem skip_print (w : Bool) (v r : Bs) : skipL (printL w v ++ r) = printL w v ++ r := by
  obtain ⟨c, t, e, h⟩ := print_cons w v r
  rw [e, skip_cons, if_neg (by rcases h with rfl | rfl <;> decide)]
theorem print_ne (w : Bool) (v r : Bs) : printL w v ++ r ≠ [] := by
  obtain ⟨c, t, e, _⟩ := print_cons w v r
  rw [e]
  exact List.cons_ne_nil _ _
theorem print_head (w : Bool) (v r : Bs) : (printL w v ++ r).head? ≠ some 42 := by
  obtain ⟨c, t, e, h⟩ := print_cons w v r
  rw [e]
  rcases h with rfl | rfl <;> simp
theorem tw_inner (v r : Bs) (hi : innerB v = true) : (v ++ 34 :: r).takeWhile isIn = v ∧ (v ++ 34 :: r).dropWhile isIn = 34 :: r := by
  have hall : ∀ c ∈ v, isIn c = true := List.all_eq_true.1 hi
  rw [List.takeWhile_append_of_pos hall, List.dropWhile_append_of_pos hall]
  simp [isIn34]
theorem take_print (w : Bool) (v r : Bs) (hi : innerB v = true) : takeR (printL w v ++ r) = some (w, v, r) := by
  obtain ⟨h1, h2⟩ := tw_inner v r hi
  unfold takeR printL
  cases w with
  | true =>
    have e : ((if true = true then [87, 47] else []) ++ 34 :: v ++ [34]) ++ r = 87 :: 47 :: 34 :: (v ++ 34 :: r) := by simp
    rw [e]
    have hp : hasPrefix (87 :: 47 :: 34 :: (v ++ 34 :: r)) [87, 47] = true := by simp [hasPrefix, List.isPrefixOf]
    have ht : trimPrefix (87 :: 47 :: 34 :: (v ++ 34 :: r)) [87, 47] = 34 :: (v ++ 34 :: r) := by unfold trimPrefix; rw [hp]; rfl
    rw [ht, hp]
    simp only [if_true, h1, h2]
  | false =>
    have e : ((if false = true then [87, 47] else []) ++ 34 :: v ++ [34]) ++ r = 34 :: (v ++ 34 :: r) := by simp
    rw [e]
    have hp : hasPrefix (34 :: (v ++ 34 :: r)) [87, 47] = false := by simp [hasPrefix, List.isPrefixOf]
    have ht : trimPrefix (34 :: (v ++ 34 :: r)) [87, 47] = 34 :: (v ++ 34 :: r) := by unfold trimPrefix; rw [hp]; rfl
    rw [ht, hp]
    simp only [if_true, h1, h2]
theorem refN_print (f : Nat) (s : Bs) (acc : List S24) (w : Bool) (v r : Bs) (hi : innerB v = true) (hs : strip s = printL w v ++ r) (hr : skipL r = [] ∨ (skipL r).head? = some 44) :
    refN (f + 1) s acc = refN f (skipL r) (acc ++ [⟨w, B v⟩]) := by
  rw [refN]
  have hs2 : (commasN (s.length + 1) s).2 = printL w v ++ r := hs
  rw [hs2, if_neg (print_ne w v r), take_print w v r hi]
  simp only
  rw [if_pos hr]
  rfl
theorem refN_end (f : Nat) (s : Bs) (acc : List S24) (hs : strip s = []) : refN (f + 1) s acc = endR acc := by
  rw [refN]
  have hs2 : (commasN (s.length + 1) s).2 = [] := hs
  rw [hs2, if_pos rfl]
theorem refN_fuel (f g : Nat) (s : Bs) (acc : List S24) (hf : s.length < f) (hg : s.length < g) : refN f s acc = refN g s acc :=
  (list_ref f f 1 s acc hf hf (.inl (by decide))).symm.trans (list_ref g f 1 s acc hg hf (.inl (by decide)))

theorem list_two (w x : Bool) (v u : Bs) (hv : innerB v = true) (hu : innerB u = true) :
    listV ([32, 44, 9] ++ printL w v ++ [32, 44, 44, 32] ++ printL x u ++ [44]) = ([⟨w, B v⟩, ⟨x, B u⟩], false, 0) := by
  have e0 : [32, 44, 9] ++ printL w v ++ [32, 44, 44, 32] ++ printL x u ++ [44] = 32 :: 44 :: 9 :: (printL w v ++ (32 :: 44 :: 44 :: 32 :: (printL x u ++ [44]))) := by simp
  rw [e0, listV_eq]
  have s0 : skipL (32 :: 44 :: 9 :: (printL w v ++ (32 :: 44 :: 44 :: 32 :: (printL x u ++ [44])))) = 44 :: 9 :: (printL w v ++ (32 :: 44 :: 44 :: 32 :: (printL x u ++ [44]))) := by
    rw [skip_cons, if_pos (.inl rfl), skip_cons, if_neg (by decide)]
  rw [s0, if_neg (by simp)]
  rw [refN_fuel _ (((44 :: 9 :: (printL w v ++ (32 :: 44 :: 44 :: 32 :: (printL x u ++ [44]))) : Bs).length) + 1 + 1 + 1) _ _ (by omega) (by omega)]
  have k1 : skipL (9 :: (printL w v ++ (32 :: 44 :: 44 :: 32 :: (printL x u ++ [44])))) = printL w v ++ (32 :: 44 :: 44 :: 32 :: (printL x u ++ [44])) := by
    rw [skip_cons, if_pos (.inr rfl), skip_print]
  have k2 : skipL (32 :: 44 :: 44 :: 32 :: (printL x u ++ [44])) = 44 :: 44 :: 32 :: (printL x u ++ [44]) := by
    rw [skip_cons, if_pos (.inl rfl), skip_cons, if_neg (by decide)]
  have k3 : skipL (32 :: (printL x u ++ [44])) = printL x u ++ [44] := by
    rw [skip_cons, if_pos (.inl rfl), skip_print]
  have k4 : skipL (44 :: 32 :: (printL x u ++ [44])) = 44 :: 32 :: (printL x u ++ [44]) := by
    rw [skip_cons, if_neg (by decide)]
  rw [refN_print _ _ [] w v (32 :: 44 :: 44 :: 32 :: (printL x u ++ [44])) hv (by rw [strip_comma, k1, strip_print]) (by rw [k2]; exact .inr rfl), k2]
  rw [refN_print _ _ _ x u [44] hu (by rw [strip_comma, k4, strip_comma, k3, strip_print]) (.inr rfl)]
  rw [show skipL [44] = [44] from rfl, refN_end _ _ _ rfl]
  rfl

theorem ETagBack (a b : S24) : ∃ k, broadsheetlaw17_ETagBack.f k a.f0 a.f1 b.f0 b.f1 = some true := by
  obtain ⟨w, y⟩ := a
  obtain ⟨x, z⟩ := b
  obtain ⟨v, rfl⟩ := B_eta y
  obtain ⟨u, rfl⟩ := B_eta z
  refine Ev.rounds (g := fun k => broadsheetlaw17_ETagBack.f k w (B v) x (B u)) ?_
  unfold broadsheetlaw17_ETagBack.f
  refine Ev.bind awake17 ?_
  simp only [if_true]
  have out : Ev (fun k => broadsheetlaw17_ETagBack.j0 k true true w (B v) x (B u)) true := by
    refine Ev.step (fun k => (show broadsheetlaw17_ETagBack.j0 (k + 1) true true w (B v) x (B u) = _ from by rw [broadsheetlaw17_ETagBack.j0])) ?_
    simp only [if_true]
    exact Ev.now _
  by_cases hv : v.length > 500
  · simp only [if_pos (show ((B v).size : Int) > 500 by rw [B_size]; omega)]
    exact out
  · simp only [if_neg (show ¬ ((B v).size : Int) > 500 by rw [B_size]; omega)]
    by_cases hu : u.length > 500
    · simp only [decide_eq_true (show ((B u).size : Int) > 500 by rw [B_size]; omega)]
      exact out
    · simp only [decide_eq_false (show ¬ ((B u).size : Int) > 500 by rw [B_size]; omega)]
      refine Ev.step (fun k => (show broadsheetlaw17_ETagBack.j0 (k + 1) true false w (B v) x (B u) = _ from by rw [broadsheetlaw17_ETagBack.j0])) ?_
      simp only [Bool.false_eq_true, if_false, gprint w v (by omega), gprint x u (by omega), Option.bind_some]
      have bad : ∀ (s t : ByteArray) (n m : Int), (n ≠ 0 → s = B []) → (m ≠ 0 → t = B []) → Ev (fun k => broadsheetlaw17_ETagBack.j1 k true s n t m true w (B v) x (B u)) true := by
        intro s t n m hn hm
        refine Ev.step (fun k => (show broadsheetlaw17_ETagBack.j1 (k + 1) true s n t m true w (B v) x (B u) = _ from by rw [broadsheetlaw17_ETagBack.j1])) ?_
        simp only [if_true]
        have ht : ∀ (q : Bool), q = true → Ev (fun _ => some q) true := by
          rintro q rfl
          exact Ev.now _
        by_cases h1 : n = 0
        · simp only [if_pos h1]
          by_cases h2 : m = 0
          · simp only [if_pos h2]
            exact Ev.now _
          · simp only [if_neg h2]
            exact ht _ (by rw [hm h2, B_toList]; rfl)
        · simp only [if_neg h1, if_pos (show s.toList = ([] : List UInt8) from by rw [hn h1, B_toList])]
          by_cases h2 : m = 0
          · simp only [if_pos h2]
            exact Ev.now _
          · simp only [if_neg h2]
            exact ht _ (by rw [hm h2, B_toList]; rfl)
      unfold printV
      cases hi : innerB v with
      | false =>
        simp only [Bool.false_eq_true, if_false, if_neg (show ¬ (170 : Int) = 0 by decide)]
        refine bad _ _ _ _ (fun _ => rfl) (fun h => ?_)
        cases hj : innerB u with
        | false => rfl
        | true => rw [hj] at h; exact absurd rfl h
      | true =>
        simp only [if_true]
        cases hj : innerB u with
        | false =>
          simp only [Bool.false_eq_true, if_false]
          exact bad _ _ _ _ (fun h => absurd rfl h) (fun _ => rfl)
        | true =>
          simp only [if_true, show ((0 : Int) != 0) = false from rfl]
          have l1 : (printL w v).length ≤ 504 := by unfold printL; cases w <;> simp <;> omega
          have l2 : (printL x u).length ≤ 504 := by unfold printL; cases x <;> simp <;> omega
          refine Ev.step (fun k => (show broadsheetlaw17_ETagBack.j1 (k + 1) true (B (printL w v)) 0 (B (printL x u)) 0 false w (B v) x (B u) = _ from by rw [broadsheetlaw17_ETagBack.j1])) ?_
          have e1 : (⟨#[32, 44, 9]⟩ : ByteArray) = B [32, 44, 9] := rfl
          have e2 : (⟨#[32, 44, 44, 32]⟩ : ByteArray) = B [32, 44, 44, 32] := rfl
          have e3 : (⟨#[44]⟩ : ByteArray) = B [44] := rfl
          simp only [Bool.false_eq_true, if_false, e1, e2, e3, B_append]
          have lt1 : 3 + (B (printL w v)).size ≤ 9223372036854775807 := by rw [B_size]; omega
          have lt2 : (B ([32, 44, 9] ++ printL w v)).size + 4 ≤ 9223372036854775807 := by rw [B_size, List.length_append]; simp; omega
          have lt3 : (B ([32, 44, 9] ++ printL w v ++ [32, 44, 44, 32])).size + (B (printL x u)).size ≤ 9223372036854775807 := by rw [B_size, B_size]; simp; omega
          have lt4 : (B ([32, 44, 9] ++ printL w v ++ [32, 44, 44, 32] ++ printL x u)).size + 1 ≤ 9223372036854775807 := by rw [B_size]; simp; omega
          have lt5 : ([32, 44, 9] ++ printL w v ++ [32, 44, 44, 32] ++ printL x u ++ [44]).length < 4000000000 := by simp; omega
          simp only [if_pos lt1, if_pos lt2, if_pos lt3, if_pos lt4, glist _ lt5, list_two w x v u hi hj, Option.bind_some, if_true]
          exact Ev.bind (same_ev _ (by simp)) (Ev.now _)
end Go.Proofs.YtodhbldnmepmaaaDoor.Pure
