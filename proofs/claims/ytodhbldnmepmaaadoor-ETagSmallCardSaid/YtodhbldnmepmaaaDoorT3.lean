/- Plain law: the reference's list, its text of a tag, and what may be done, are the program's. -/
import Derived.Test.YtodhbldnmepmaaaDoorT2
import Derived.Test.YtodhbldnmepmaaaDoorPe8
namespace Go.Proofs.YtodhbldnmepmaaaDoor.T
open Go.RowKit Go.Lib Go.Proofs.YtodhbldnmepmaaaDoorW.PrintWords Go.Proofs.YtodhbldnmepmaaaDoor.X Go.Proofs.YtodhbldnmepmaaaDoor.Pe Go.Proofs.YtodhbldnmepmaaaDoor.U
set_option linter.unusedSimpArgs false

theorem commas_cons (n : Nat) (t : Bs) : (commasN (n + 1) (44 :: t)).2 = (commasN n (skipL t)).2 := by
  rw [commasN, if_pos ((hp44 _).2 ⟨t, rfl⟩), tp_one]
theorem commas_ne (n : Nat) (c : UInt8) (t : Bs) (h : c ≠ 44) : (commasN (n + 1) (c :: t)).2 = c :: t := by
  rw [commasN, if_neg]
  intro hh
  obtain ⟨t', e⟩ := (hp44 _).1 hh
  cases e
  exact h rfl
theorem commas_nil (n : Nat) : (commasN (n + 1) []).2 = [] := rfl

theorem rl1_ev (acc : List S24) (R : LR) : ∀ (n : Nat) (s : Bs), s.length < n → s.length < 4611686018427387904 → Ev (fun k => broadsheetref17_List.j3 k (B (commasN n s).2) acc) R → Ev (fun k => broadsheetref17_List.l1 k (B s) acc) R := by
  intro n
  induction n with
  | zero => intro s h; omega
  | succ n ih =>
    intro s h1 h2 hj
    refine Ev.step (fun k => (show broadsheetref17_List.l1 (k + 1) (B s) acc = _ from by rw [broadsheetref17_List.l1])) ?_
    cases s with
    | nil =>
      simp only [if_pos (show (B []).toList = ([] : List UInt8) from (toList_nil []).2 rfl)]
      exact hj
    | cons c t =>
      have hs : ((B (c :: t)).size : Int) = (t.length : Int) + 1 := by rw [B_size]; simp
      simp only [if_neg (show ¬ (B (c :: t)).toList = ([] : List UInt8) from fun h => List.cons_ne_nil _ _ ((toList_nil _).1 h)), if_pos (show 0 < ((B (c :: t)).size : Int) by omega), bt_head]
      simp only [List.length_cons] at h1 h2
      by_cases hc : c = 44
      · subst hc
        simp only [if_pos (show (((44 : UInt8).toNat : Nat) : Int) = 44 from rfl), if_pos (show (1 : Int) ≤ ((B (44 :: t)).size : Int) by omega), extract_tail, List.drop_one, List.tail_cons]
        refine Ev.bind (skipf_ev t (by omega)) ?_
        have hk := skip_len t
        rw [commas_cons] at hj
        exact ih (skipL t) (by omega) (by omega) hj
      · simp only [if_neg (show ¬ (c.toNat : Int) = 44 from val_ne c 44 hc)]
        rw [commas_ne n c t hc] at hj
        exact hj

theorem rl0_ev : ∀ (f : Nat) (s : Bs) (acc : List S24), s.length < f → s.length + acc.length < 5000000000000 → Ev (fun k => broadsheetref17_List.l0 k (B s) acc) (refN f s acc) := by
  intro f
  induction f with
  | zero => intro s acc h; omega
  | succ f ih =>
    intro s acc h1 h2
    refine Ev.step (fun k => (show broadsheetref17_List.l0 (k + 1) (B s) acc = _ from by rw [broadsheetref17_List.l0])) ?_
    refine rl1_ev acc _ (s.length + 1) s (by omega) (by omega) ?_
    have hcl := commas_len (s.length + 1) s
    rw [refN]
    generalize (commasN (s.length + 1) s).2 = q at hcl ⊢
    refine Ev.step (fun k => (show broadsheetref17_List.j3 (k + 1) (B q) acc = _ from by rw [broadsheetref17_List.j3])) ?_
    by_cases hq : q = []
    · subst hq
      simp only [if_pos (show (B []).toList = ([] : List UInt8) from (toList_nil []).2 rfl), if_true]
      unfold endR
      cases acc with
      | nil =>
        simp only [List.length_nil, if_true, if_pos (show ((0 : Nat) : Int) = 0 from rfl)]
        exact Ev.now _
      | cons x xs =>
        simp only [if_neg (show ¬ (((x :: xs).length : Nat) : Int) = 0 by simp; omega), if_neg (show ¬ (x :: xs : List S24) = [] from List.cons_ne_nil _ _)]
        exact Ev.now _
    · simp only [if_neg (show ¬ (B q).toList = ([] : List UInt8) from fun h => hq ((toList_nil _).1 h)), if_neg hq]
      refine Ev.bind (take_ev q (by omega)) ?_
      unfold takeV
      cases ht : takeR q with
      | none =>
        simp only
        refine Ev.bind (skipf_ev [] (by decide)) ?_
        simp only [Bool.false_eq_true, if_false]
        exact Ev.now _
      | some x =>
        obtain ⟨w, v, r⟩ := x
        have hlen := take_len ht
        have hk := skip_len r
        simp only
        refine Ev.bind (skipf_ev r (by omega)) ?_
        simp only [if_true]
        have go : skipL r = [] ∨ (skipL r).head? = some 44 → Ev (fun k => if acc.length < 5864062014805 then broadsheetref17_List.l0 k (B (skipL r)) (acc ++ [⟨w, B v⟩]) else none) (refN f (skipL r) (acc ++ [⟨w, M v⟩])) := by
          intro _
          simp only [if_pos (show acc.length < 5864062014805 by omega)]
          exact ih (skipL r) (acc ++ [⟨w, M v⟩]) (by omega) (by simp; omega)
        by_cases hn : skipL r = []
        · simp only [if_pos (show (B (skipL r)).toList = ([] : List UInt8) from (toList_nil _).2 hn), if_pos (show skipL r = [] ∨ (skipL r).head? = some 44 from .inl hn)]
          exact go (.inl hn)
        · simp only [if_neg (show ¬ (B (skipL r)).toList = ([] : List UInt8) from fun h => hn ((toList_nil _).1 h))]
          cases hsr : skipL r with
          | nil => exact absurd hsr hn
          | cons c t =>
            have hs : ((B (c :: t)).size : Int) = (t.length : Int) + 1 := by rw [B_size]; simp
            rw [hsr] at go
            simp only [if_pos (show 0 < ((B (c :: t)).size : Int) by omega), bt_head]
            by_cases hc : c = 44
            · subst hc
              simp only [if_pos (show (((44 : UInt8).toNat : Nat) : Int) = 44 from rfl), if_pos (show ((44 :: t : Bs) = [] ∨ (44 :: t : Bs).head? = some 44) from .inr rfl)]
              exact go (.inr rfl)
            · simp only [if_neg (show ¬ (c.toNat : Int) = 44 from val_ne c 44 hc)]
              rw [if_neg (by simp [hc])]
              exact Ev.now _
theorem rlist_ev (l : Bs) (hl : l.length < 4000000000) : Ev (fun k => broadsheetref17_List.f k (B l)) (listV l) := by
  rw [listV_eq]
  unfold broadsheetref17_List.f
  refine Ev.bind (skipf_ev l (by omega)) ?_
  have hk := skip_len l
  generalize skipL l = q at hk ⊢
  have goF : ¬ (q.head? = some 42 ∧ skipL q.tail = []) → Ev (fun k => broadsheetref17_List.j0 k (B q) false) (if q.head? = some 42 ∧ skipL q.tail = [] then (([], true, 0) : LR) else refN (q.length + 1) q []) := by
    intro h
    rw [if_neg h]
    refine Ev.step (fun k => (show broadsheetref17_List.j0 (k + 1) (B q) false = _ from by rw [broadsheetref17_List.j0])) ?_
    simp only [Bool.false_eq_true, if_false]
    exact rl0_ev (q.length + 1) q [] (by omega) (by simp; omega)
  cases q with
  | nil =>
    simp only [if_pos (show (B []).toList = ([] : List UInt8) from (toList_nil []).2 rfl)]
    exact goF (by simp)
  | cons c t =>
    have hs : ((B (c :: t)).size : Int) = (t.length : Int) + 1 := by rw [B_size]; simp
    simp only [if_neg (show ¬ (B (c :: t)).toList = ([] : List UInt8) from fun h => List.cons_ne_nil _ _ ((toList_nil _).1 h)), if_pos (show 0 < ((B (c :: t)).size : Int) by omega), bt_head]
    simp only [List.length_cons] at hk
    by_cases hc : c = 42
    · subst hc
      simp only [if_pos (show (((42 : UInt8).toNat : Nat) : Int) = 42 from rfl), if_pos (show (1 : Int) ≤ ((B (42 :: t)).size : Int) by omega), extract_tail, List.drop_one, List.tail_cons]
      refine Ev.bind (skipf_ev t (by omega)) ?_
      by_cases he : skipL t = []
      · simp only [B_toList, he, beq_self_eq_true]
        rw [if_pos (show ((42 :: t : Bs).head? = some 42 ∧ True) from ⟨rfl, trivial⟩)]
        refine Ev.step (fun k => (show broadsheetref17_List.j0 (k + 1) (B (42 :: t)) true = _ from by rw [broadsheetref17_List.j0])) ?_
        simp only [if_true]
        exact Ev.now _
      · simp only [B_toList, beq_eq_false_iff_ne.2 he]
        exact goF (fun h => he h.2)
    · simp only [if_neg (show ¬ (c.toNat : Int) = 42 from val_ne c 42 hc)]
      exact goF (fun h => hc (by simpa using h.1))

theorem refN_len : ∀ (f : Nat) (s : Bs) (acc : List S24), (refN f s acc).1.length ≤ acc.length + s.length := by
  intro f
  induction f with
  | zero => intro s acc; simp [refN]
  | succ f ih =>
    intro s acc
    have hcl := commas_len (s.length + 1) s
    rw [refN]
    split
    · unfold endR
      split
      · simp [bad170]
      · simp
    · split
      · simp [bad170]
      · rename_i w v r ht
        have hlen := take_len ht
        have hk := skip_len r
        split
        · have := ih (skipL r) (acc ++ [⟨w, M v⟩])
          simp only [List.length_append, List.length_singleton] at this
          omega
        · simp [bad170]
theorem listV_len (l : Bs) : (listV l).1.length ≤ l.length := by
  rw [listV_eq]
  have hk := skip_len l
  split
  · simp
  · have := refN_len ((skipL l).length + 1) (skipL l) []
    simp only [List.length_nil] at this
    omega
theorem glist (l : Bs) (hl : l.length < 4000000000) : etag_List.f (B l) = some (listV l) := by
  unfold etag_List.f
  rw [if_pos (by rw [B_size]; omega)]
  rfl

/-! ### two lists of tags that are the same; a tag's text -/
theorem same_l0 (l : List S24) (hl : l.length ≤ 4611686018427387904) : ∀ (d i : Nat), l.length - i ≤ d → i ≤ l.length → Ev (fun k => broadsheetref17_Same.l0 k l l (i : Int)) true := by
  have fin : ∀ (i : Nat), ¬ i < l.length → Ev (fun k => broadsheetref17_Same.l0 k l l (i : Int)) true := by
    intro i h
    refine Ev.step (fun k => (show broadsheetref17_Same.l0 (k + 1) l l i = _ from by rw [broadsheetref17_Same.l0])) ?_
    simp only [if_neg (show ¬ (i : Int) < (l.length : Int) by omega)]
    exact Ev.now _
  intro d
  induction d with
  | zero => intro i hd hi; exact fin i (by omega)
  | succ d ih =>
    intro i hd hi
    by_cases h : i < l.length
    · have e1 : wrap64 ((i : Int) + 1) = ((i + 1 : Nat) : Int) := by rw [w64 (by omega) (by omega)]; rfl
      refine Ev.step (fun k => (show broadsheetref17_Same.l0 (k + 1) l l i = _ from by rw [broadsheetref17_Same.l0])) ?_
      simp only [if_pos (show (i : Int) < (l.length : Int) by omega), if_pos (show (0 : Int) ≤ (i : Int) by omega), beq_self_eq_true, Bool.not_true, Bool.or_self, Bool.false_eq_true, if_false, e1]
      exact ih (i + 1) (by omega) (by omega)
    · exact fin i h
theorem same_ev (l : List S24) (hl : l.length ≤ 4611686018427387904) : Ev (fun k => broadsheetref17_Same.f k l l) true := by
  have := same_l0 l hl l.length 0 (by omega) (by omega)
  unfold broadsheetref17_Same.f
  simp only [if_true]
  exact this

def printL (w : Bool) (v : Bs) : Bs := (if w = true then [87, 47] else []) ++ 34 :: v ++ [34]
def printV (w : Bool) (v : Bs) : ByteArray × Int := if innerB v = true then (B (printL w v), 0) else (B [], 170)
theorem innerB_isIn (v : Bs) : innerB v = v.all isIn := rfl
theorem gprint (w : Bool) (v : Bs) (hv : v.length < 140737488355328) : etag_Print.f w (B v) = some (printV w v) := by
  unfold etag_Print.f etag_inner.f printV
  rw [if_pos (by rw [B_size]; omega), show L (B v) = v from rfl, Option.bind_some]
  have e0 : (⟨#[34]⟩ : ByteArray) = B [34] := rfl
  have e1 : (⟨#[87, 47]⟩ : ByteArray) = B [87, 47] := rfl
  have e2 : (⟨#[]⟩ : ByteArray) = B [] := rfl
  cases hi : innerB v with
  | false =>
    simp only [Bool.false_eq_true, if_false]
    rfl
  | true =>
    simp only [if_true, e0, e1, e2, B_append, B_size, List.length_append, List.length_singleton, List.length_cons, List.length_nil]
    rw [if_pos (by omega), if_pos (by omega)]
    cases w with
    | true =>
      rw [if_pos rfl, if_pos (by omega)]
      unfold printL
      simp
    | false =>
      simp only [Bool.false_eq_true, if_false]
      unfold printL
      simp
theorem rprint_l0 (w : Bool) (v : Bs) (hv : v.length < 140737488355328) : ∀ (d i : Nat), v.length - i ≤ d → i ≤ v.length → Ev (fun k => broadsheetref17_Print.l0 k (i : Int) w (B v)) (if innerB (v.drop i) = true then (B (printL w v), 0) else (B [], 170)) := by
  have e0 : (⟨#[34]⟩ : ByteArray) = B [34] := rfl
  have e1 : (⟨#[87, 47, 34]⟩ : ByteArray) = B [87, 47, 34] := rfl
  have e2 : (⟨#[]⟩ : ByteArray) = B [] := rfl
  have fin : ∀ (i : Nat), i = v.length → Ev (fun k => broadsheetref17_Print.l0 k (i : Int) w (B v)) (if innerB (v.drop i) = true then (B (printL w v), 0) else (B [], 170)) := by
    intro i h
    refine Ev.step (fun k => (show broadsheetref17_Print.l0 (k + 1) i w (B v) = _ from by rw [broadsheetref17_Print.l0])) ?_
    rw [List.drop_eq_nil_of_le (by omega), if_pos (show innerB [] = true from rfl)]
    simp only [if_neg (show ¬ (i : Int) < ((B v).size : Int) by rw [B_size]; omega)]
    cases w with
    | true =>
      simp only [if_true, e0, e1, B_append]
      simp only [B_size, List.length_append, List.length_cons, List.length_nil]
      simp only [if_pos (show 3 + v.length ≤ 9223372036854775807 by omega), if_pos (show 0 + 1 + 1 + 1 + v.length + 1 ≤ 9223372036854775807 by omega)]
      exact Ev.now _
    | false =>
      simp only [Bool.false_eq_true, if_false, e0, e1, B_append]
      simp only [B_size, List.length_append, List.length_cons, List.length_nil]
      simp only [if_pos (show 1 + v.length ≤ 9223372036854775807 by omega), if_pos (show 0 + 1 + v.length + 1 ≤ 9223372036854775807 by omega)]
      exact Ev.now _
  intro d
  induction d with
  | zero => intro i hd hi; exact fin i (by omega)
  | succ d ih =>
    intro i hd hi
    by_cases h : i < v.length
    · have ew : wrap64 ((i : Int) + 1) = ((i + 1 : Nat) : Int) := by rw [w64 (by omega) (by omega)]; rfl
      refine Ev.step (fun k => (show broadsheetref17_Print.l0 (k + 1) i w (B v) = _ from by rw [broadsheetref17_Print.l0])) ?_
      simp only [if_pos (show (i : Int) < ((B v).size : Int) by rw [B_size]; omega), if_pos (show (0 : Int) ≤ (i : Int) by omega), bt_val v i h, inner_eq, Option.bind_some, ew]
      have ed : innerB (v.drop i) = (isIn v[i] && innerB (v.drop (i + 1))) := by rw [List.drop_eq_getElem_cons h]; rfl
      rw [ed]
      cases isIn v[i] with
      | true =>
        simp only [if_true, Bool.true_and]
        exact ih (i + 1) (by omega) (by omega)
      | false =>
        simp only [Bool.false_eq_true, if_false, Bool.false_and]
        exact Ev.now _
    · exact fin i (by omega)
theorem rprint_ev (w : Bool) (v : Bs) (hv : v.length < 140737488355328) : Ev (fun k => broadsheetref17_Print.f k w (B v)) (printV w v) := by
  have := rprint_l0 w v hv v.length 0 (by omega) (by omega)
  exact this
end Go.Proofs.YtodhbldnmepmaaaDoor.T
