/- Plain law of fields: the reference's lines, small letters, and Parse are the program's. -/
import Derived.Test.YtodhbldnmepmaaaDoorF1
import Derived.Test.YtodhbldnmepmaaaDoorPf5
namespace Go.Proofs.YtodhbldnmepmaaaDoor.F
open Go.RowKit Go.Lib Go.Proofs.YtodhbldnmepmaaaDoorW.PrintWords Go.Proofs.YtodhbldnmepmaaaDoor.X Go.Proofs.YtodhbldnmepmaaaDoor.Pf Go.Proofs.YtodhbldnmepmaaaDoor.U
set_option linter.unusedSimpArgs false
/-! ### the first line -/
def lineI (i : Nat) (o : Option (Bs × Bs)) : Int := match o with | none => -1 | some p => (i : Int) + p.1.length
theorem lineI_cons (i : Nat) (c : UInt8) (t : Bs) (h : ¬ (c = 13 ∧ t.head? = some 10)) : lineI i (lineL (c :: t)) = lineI (i + 1) (lineL t) := by
  rw [lineL, if_neg h]
  cases lineL t with
  | none => rfl
  | some p => show (i : Int) + ((p.1.length + 1 : Nat) : Int) = ((i + 1 : Nat) : Int) + p.1.length; omega
theorem rline_l0 (l : Bs) (hl : l.length < 4611686018427387000) : ∀ (d i : Nat), l.length - i ≤ d → i ≤ l.length → Ev (fun k => broadsheetref18_line.l0 k (B l) (i : Int)) (lineI i (lineL (l.drop i))) := by
  have fin : ∀ i, ¬ i + 1 < l.length → i ≤ l.length → Ev (fun k => broadsheetref18_line.l0 k (B l) (i : Int)) (lineI i (lineL (l.drop i))) := by
    intro i h h2
    refine Ev.step (fun k => (show broadsheetref18_line.l0 (k + 1) (B l) (i : Int) = _ from by rw [broadsheetref18_line.l0])) ?_
    rw [wstep i (by omega)]
    refine Ev.ite_neg (by rw [B_size]; omega) ?_
    have e : lineL (l.drop i) = none := by
      cases hd : l.drop i with
      | nil => rfl
      | cons c t =>
        have : t = [] := by
          have := congrArg List.length hd
          rw [List.length_drop, List.length_cons] at this
          exact List.length_eq_zero_iff.1 (by omega)
        subst this
        rw [lineL, if_neg (fun h => by cases h.2)]
        rfl
    rw [e]
    exact Ev.now _
  intro d
  induction d with
  | zero => intro i hd hi; exact fin i (by omega) hi
  | succ d ih =>
    intro i hd hi
    by_cases h : i + 1 < l.length
    · refine Ev.step (fun k => (show broadsheetref18_line.l0 (k + 1) (B l) (i : Int) = _ from by rw [broadsheetref18_line.l0])) ?_
      rw [wstep i (by omega), bt_val l i (by omega), bt_val l (i + 1) h]
      refine Ev.ite_pos (by rw [B_size]; omega) (Ev.ite_pos (by omega) (Ev.ite_pos (by rw [B_size]; omega) ?_))
      have e1 : l.drop i = l[i] :: l.drop (i + 1) := List.drop_eq_getElem_cons (by omega)
      have e2 : l.drop (i + 1) = l[i + 1] :: l.drop (i + 1 + 1) := List.drop_eq_getElem_cons h
      have next := ih (i + 1) (by omega) (by omega)
      by_cases h1 : l[i] = 13
      · refine Ev.ite_pos (val_eq _ 13 h1) (Ev.ite_pos (by omega) ?_)
        by_cases h2 : l[i + 1] = 10
        · refine Ev.ite_pos (val_eq _ 10 h2) ?_
          rw [e1, lineL, if_pos ⟨h1, by rw [e2, h2]; rfl⟩]
          have : lineI i (some (([] : Bs), (l.drop (i + 1)).tail)) = (i : Int) := by show (i : Int) + ((0 : Nat) : Int) = _; omega
          rw [this]
          exact Ev.now _
        · refine Ev.ite_neg (val_ne _ 10 h2) ?_
          rw [e1, lineI_cons i _ _ (fun hh => h2 (by rw [e2] at hh; exact Option.some.inj hh.2))]
          exact next
      · refine Ev.ite_neg (val_ne _ 13 h1) ?_
        rw [e1, lineI_cons i _ _ (fun hh => h1 hh.1)]
        exact next
    · exact fin i h hi
def lineV (l : Bs) : ByteArray × ByteArray × Bool := match lineL l with | none => (B [], B [], false) | some p => (B p.1, B p.2, true)
theorem rline_ev (l : Bs) (hl : l.length < 4611686018427387000) : Ev (fun k => broadsheetref18_Line.f k (B l)) (lineV l) := by
  unfold broadsheetref18_Line.f
  refine Ev.bind (rline_l0 l hl l.length 0 (by omega) (by omega)) ?_
  rw [List.drop_zero]
  unfold lineV
  cases h : lineL l with
  | none => exact Ev.ite_pos (by decide) (Ev.now _)
  | some p =>
    obtain ⟨a, b⟩ := p
    have e : lineI 0 (some (a, b)) = (a.length : Int) := by show ((0 : Nat) : Int) + (a.length : Int) = _; omega
    have hn := line_len h
    have w2 : wrap64 ((a.length : Int) + 2) = ((a.length + 2 : Nat) : Int) := by rw [w64 (by omega) (by omega)]; rfl
    rw [e, w2]
    refine Ev.ite_neg (by omega) (Ev.ite_pos (by omega) (Ev.ite_pos (by rw [B_size]; omega) (Ev.ite_pos (by omega) (Ev.ite_pos (by rw [B_size]; omega) ?_))))
    rw [Int.toNat_natCast, Int.toNat_natCast, extract_head, extract_tail]
    have e1 : l.take a.length = a := by rw [line_some l h]; exact List.take_left' rfl
    have e2 : l.drop (a.length + 2) = b := by
      rw [line_some l h, show a ++ 13 :: 10 :: b = (a ++ [13, 10]) ++ b by simp]
      exact List.drop_left' (by simp)
    rw [e1, e2]
    exact Ev.now _
/-! ### small letters -/
def numsB (l : Bs) : List Int := l.map fun b => (b.toNat : Int)
theorem numsB_str (l : Bs) : strOfNums (numsB l) = B l := by
  unfold strOfNums numsB B
  rw [List.map_map]
  congr 1
  have : ((fun n : Int => n.toNat.toUInt8) ∘ fun b : UInt8 => (b.toNat : Int)) = id := by
    funext b
    simp
  first
  | (rw [this, List.map_id]; rfl)
  | (rw [this, List.map_id])
  | simp
theorem low_num : ∀ n : Nat, n < 256 → ((lowC (UInt8.ofNat n)).toNat : Int) = if (n : Int) ≥ 65 ∧ (n : Int) ≤ 90 then ((n : Int) + 32) % 256 else n := by decide +kernel
theorem low_val (c : UInt8) : ((lowC c).toNat : Int) = if (c.toNat : Int) ≥ 65 ∧ (c.toNat : Int) ≤ 90 then ((c.toNat : Int) + 32) % 256 else c.toNat := by
  have := low_num c.toNat c.toNat_lt
  rwa [UInt8.ofNat_toNat] at this
theorem rlower_l0 (l : Bs) (hl : l.length < 140737488355328) : ∀ (d i : Nat), l.length - i ≤ d → i ≤ l.length → Ev (fun k => broadsheetref07_Lower.l0 k (B l) (numsB (small (l.take i))) (i : Int)) (B (small l)) := by
  have fin : ∀ i, ¬ i < l.length → Ev (fun k => broadsheetref07_Lower.l0 k (B l) (numsB (small (l.take i))) (i : Int)) (B (small l)) := by
    intro i h
    refine Ev.step (fun k => (show broadsheetref07_Lower.l0 (k + 1) (B l) (numsB (small (l.take i))) (i : Int) = _ from by rw [broadsheetref07_Lower.l0])) ?_
    refine Ev.ite_neg (by rw [B_size]; omega) ?_
    rw [List.take_of_length_le (by omega), numsB_str]
    exact Ev.now _
  intro d
  induction d with
  | zero => intro i hd hi; exact fin i (by omega)
  | succ d ih =>
    intro i hd hi
    by_cases h : i < l.length
    · refine Ev.step (fun k => (show broadsheetref07_Lower.l0 (k + 1) (B l) (numsB (small (l.take i))) (i : Int) = _ from by rw [broadsheetref07_Lower.l0])) ?_
      rw [bt_val l i h, wstep i (by omega)]
      have hn : (numsB (small (l.take i))).length < 140737488355328 := by
        unfold numsB small
        rw [List.length_map, List.length_map, List.length_take]
        omega
      have hs : numsB (small (l.take (i + 1))) = numsB (small (l.take i)) ++ [((lowC l[i]).toNat : Int)] := by
        rw [List.take_succ_eq_append_getElem h]
        unfold numsB small
        rw [List.map_append, List.map_append]
        rfl
      have next := ih (i + 1) (by omega) (by omega)
      rw [hs, low_val] at next
      refine Ev.ite_pos (by rw [B_size]; omega) (Ev.ite_pos (by omega) ?_)
      by_cases h1 : (l[i].toNat : Int) ≥ 65
      · refine Ev.ite_pos h1 ?_
        by_cases h2 : (l[i].toNat : Int) ≤ 90
        · rw [if_pos ⟨h1, h2⟩] at next
          exact Ev.ite_pos h2 (Ev.ite_pos hn next)
        · rw [if_neg (fun h => h2 h.2)] at next
          exact Ev.ite_neg h2 (Ev.ite_pos hn next)
      · rw [if_neg (fun h => h1 h.1)] at next
        exact Ev.ite_neg h1 (Ev.ite_pos hn next)
    · exact fin i h
theorem rlower_ev (l : Bs) (hl : l.length < 140737488355328) : Ev (fun k => broadsheetref07_Lower.f k (B l)) (B (small l)) :=
  rlower_l0 l hl l.length 0 (by omega) (by omega)
end Go.Proofs.YtodhbldnmepmaaaDoor.F
