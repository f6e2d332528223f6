/- Plain law of fields: Get of the program and of the document answer the same. -/
import Derived.Test.YtodhbldnmepmaaaDoorF4
namespace Go.Proofs.YtodhbldnmepmaaaDoor.F
open Go.RowKit Go.Lib Go.Proofs.YtodhbldnmepmaaaDoorW.PrintWords Go.Proofs.YtodhbldnmepmaaaDoor.X Go.Proofs.YtodhbldnmepmaaaDoor.Pf Go.Proofs.YtodhbldnmepmaaaDoor.U
set_option linter.unusedSimpArgs false
def hit (n : Bs) (x : S49) : Bool := small (L x.f0) == small n
def hits (n : Bs) (l : List S49) : List ByteArray := (l.filter (hit n)).map (·.f1)
def joinB (l : List ByteArray) : Bs := Lib.join (l.map (·.data.toList)) [44, 32]
theorem hits_take (n : Bs) (l : List S49) (i : Nat) (h : i < l.length) : hits n (l.take (i + 1)) = if hit n l[i] = true then hits n (l.take i) ++ [l[i].f1] else hits n (l.take i) := by
  unfold hits
  rw [List.take_succ_eq_append_getElem h, List.filter_append, List.filter_cons, List.filter_nil]
  split <;> simp
theorem hits_len (n : Bs) : ∀ l : List S49, Lib.lens ((hits n l).map (·.data.toList)) + 2 * (hits n l).length ≤ tot l ∧ (hits n l).length ≤ l.length
  | [] => ⟨Nat.le_refl _, Nat.le_refl _⟩
  | x :: r => by
    obtain ⟨h1, h2⟩ := hits_len n r
    have e : hits n (x :: r) = if hit n x = true then x.f1 :: hits n r else hits n r := by
      unfold hits
      rw [List.filter_cons]
      split <;> simp
    rw [e]
    have hx : x.f1.data.toList.length = x.f1.size := rfl
    split
    · simp only [List.map_cons, Lib.lens, List.length_cons, tot, List.sum_cons, List.foldr, List.foldl] at h1 ⊢
      omega
    · simp only [List.length_cons, tot]
      omega
theorem join_le (l : List ByteArray) : (joinB l).length ≤ Lib.lens (l.map (·.data.toList)) + 2 * l.length := by
  unfold joinB
  cases l with
  | nil => simp [Lib.join_nil]
  | cons x r =>
    rw [List.map_cons, Lib.join_length, List.length_map]
    simp only [List.length_cons, List.length_nil]
    omega
theorem join_snoc (l : List ByteArray) (v : ByteArray) : joinB (l ++ [v]) = if l = [] then v.data.toList else joinB l ++ [44, 32] ++ v.data.toList := by
  unfold joinB
  cases l with
  | nil => simp [Lib.join_one]
  | cons x r =>
    rw [if_neg (List.cons_ne_nil _ _), List.cons_append, List.map_cons, List.map_cons, Lib.join_cons, Lib.join_cons]
    simp [Lib.joinTail]
theorem gsmall (l : Bs) (h : l.length ≤ 140737488355328) : media_Small.f (B l) = some (B (small l)) := by
  unfold media_Small.f
  rw [if_pos (by rw [B_size]; omega)]
  rfl
theorem gjoin (l : List ByteArray) (h : (joinB l).length ≤ 140737488355328) (h2 : l.length ≤ 140737488355328) : strings_Join.f l (⟨#[44, 32]⟩ : ByteArray) = some (B (joinB l)) := by
  unfold strings_Join.f
  rw [if_pos ⟨h, h2⟩]
  rfl
theorem hit_iff (n : Bs) (x : S49) : hit n x = true ↔ small (L x.f0) = small n := beq_iff_eq
section
variable (l : List S49) (n : Bs) (ht : tot l ≤ 1000000) (hl : l.length ≤ 1000000) (hn : n.length ≤ 1000000)
include ht hl hn
theorem gget_l0 : ∀ (d i : Nat), l.length - i ≤ d → i ≤ l.length → Ev (fun k => field_Get.l0 k (B n) (hits n (l.take i)) l (l.length : Int) (i : Int)) (B (joinB (hits n l)), ((hits n l).length : Int)) := by
  obtain ⟨q1, q2⟩ := hits_len n l
  have q3 := join_le (hits n l)
  have fin : ∀ i, ¬ i < l.length → i ≤ l.length → Ev (fun k => field_Get.l0 k (B n) (hits n (l.take i)) l (l.length : Int) (i : Int)) (B (joinB (hits n l)), ((hits n l).length : Int)) := by
    intro i h h2
    rw [List.take_of_length_le (by omega)]
    refine Ev.step (fun k => (show field_Get.l0 (k + 1) (B n) (hits n l) l (l.length : Int) (i : Int) = _ from by rw [field_Get.l0])) ?_
    refine Ev.ite_neg (by omega) ?_
    rw [gjoin _ (by omega) (by omega)]
    exact Ev.now _
  intro d
  induction d with
  | zero => intro i hd hi; exact fin i (by omega) hi
  | succ d ih =>
    intro i hd hi
    by_cases h : i < l.length
    · refine Ev.step (fun k => (show field_Get.l0 (k + 1) (B n) (hits n (l.take i)) l (l.length : Int) (i : Int) = _ from by rw [field_Get.l0])) ?_
      rw [rd49 l i h, wstep i (by omega)]
      have hs := (text_take_le l i h).1
      have next := ih (i + 1) (by omega) (by omega)
      rw [hits_take n l i h] at next
      have hh := hit_iff n l[i]
      obtain ⟨m, hm⟩ := B_eta l[i].f0
      rw [hm] at hs hh ⊢
      rw [B_size] at hs
      rw [gsmall m (by omega), gsmall n (by omega)]
      refine Ev.ite_pos (by omega) (Ev.ite_pos (by omega) (Ev.ite_pos (by omega) (Ev.some_bind (Ev.some_bind ?_))))
      rw [B_toList, B_toList]
      have hk := hits_len n (l.take i)
      rw [List.length_take] at hk
      by_cases hc : small m = small n
      · rw [if_pos (hh.2 hc)] at next
        exact Ev.ite_pos hc (Ev.ite_pos (by omega) next)
      · rw [if_neg (fun h => hc (hh.1 h))] at next
        exact Ev.ite_neg hc next
    · exact fin i h hi
theorem gget_ev : Ev (fun k => field_Get.f k l (B n)) (B (joinB (hits n l)), ((hits n l).length : Int)) :=
  gget_l0 l n ht hl hn l.length 0 (by omega) (by omega)
theorem rget_l0 : ∀ (d i : Nat), l.length - i ≤ d → i ≤ l.length → Ev (fun k => broadsheetref18_Get.l0 k l (B n) (B (joinB (hits n (l.take i)))) ((hits n (l.take i)).length : Int) (i : Int)) (B (joinB (hits n l)), ((hits n l).length : Int)) := by
  have fin : ∀ i, ¬ i < l.length → i ≤ l.length → Ev (fun k => broadsheetref18_Get.l0 k l (B n) (B (joinB (hits n (l.take i)))) ((hits n (l.take i)).length : Int) (i : Int)) (B (joinB (hits n l)), ((hits n l).length : Int)) := by
    intro i h h2
    rw [List.take_of_length_le (by omega)]
    refine Ev.step (fun k => (show broadsheetref18_Get.l0 (k + 1) l (B n) (B (joinB (hits n l))) ((hits n l).length : Int) (i : Int) = _ from by rw [broadsheetref18_Get.l0])) ?_
    exact Ev.ite_neg (by omega) (Ev.now _)
  intro d
  induction d with
  | zero => intro i hd hi; exact fin i (by omega) hi
  | succ d ih =>
    intro i hd hi
    by_cases h : i < l.length
    · have hk := hits_len n (l.take i)
      have hj := join_le (hits n (l.take i))
      have next := ih (i + 1) (by omega) (by omega)
      rw [hits_take n l i h] at next
      have hsn := join_snoc (hits n (l.take i)) l[i].f1
      generalize hits n (l.take i) = acc at hk hj next hsn ⊢
      refine Ev.step (fun k => (show broadsheetref18_Get.l0 (k + 1) l (B n) (B (joinB acc)) (acc.length : Int) (i : Int) = _ from by rw [broadsheetref18_Get.l0])) ?_
      rw [rd49 l i h, wstep i (by omega)]
      rw [List.length_take] at hk
      obtain ⟨hs, hs2⟩ := tot_take l i h
      have hh := hit_iff n l[i]
      obtain ⟨m, hm⟩ := B_eta l[i].f0
      obtain ⟨v, hv⟩ := B_eta l[i].f1
      rw [hm, hv] at hs
      rw [hm] at hh
      rw [hv] at hsn next
      rw [hm, hv, wstep acc.length (by omega)]
      rw [B_size, B_size] at hs
      refine Ev.ite_pos (by omega) (Ev.ite_pos (by omega) (Ev.bind (rlower_ev m (by omega)) (Ev.bind (rlower_ev n (by omega)) ?_)))
      rw [B_toList, B_toList]
      by_cases hc : small m = small n
      · rw [if_pos (hh.2 hc), hsn, List.length_append, List.length_singleton] at next
        refine Ev.ite_pos hc ?_
        by_cases ha : acc = []
        · rw [if_pos ha] at next
          subst ha
          refine Ev.ite_neg (by simp) ?_
          rw [show joinB [] = [] from rfl, B_append]
          exact Ev.ite_pos (by rw [B_size, B_size]; simp; omega) next
        · rw [if_neg ha] at next
          have hpos : 0 < acc.length := List.length_pos_iff.2 ha
          refine Ev.ite_pos (by omega) ?_
          rw [show (⟨#[44, 32]⟩ : ByteArray) = B [44, 32] from rfl, B_append, B_append, B_size, B_size, B_size]
          refine Ev.ite_pos (by omega) (Ev.ite_pos ?_ next)
          simp only [List.length_append, List.length_cons, List.length_nil]
          omega
      · rw [if_neg (fun h => hc (hh.1 h))] at next
        exact Ev.ite_neg hc next
    · exact fin i h hi
theorem rget_ev : Ev (fun k => broadsheetref18_Get.f k l (B n)) (B (joinB (hits n l)), ((hits n l).length : Int)) :=
  rget_l0 l n ht hl hn l.length 0 (by omega) (by omega)
end
end Go.Proofs.YtodhbldnmepmaaaDoor.F
