/- Plain law of fields: the reference's Print is the program's; what few pairs are; many times a text. -/
import Derived.Test.YtodhbldnmepmaaaDoorF3
import Derived.Test.YtodhbldnmepmaaaDoorPf6
namespace Go.Proofs.YtodhbldnmepmaaaDoor.F
open Go.RowKit Go.Lib Go.Proofs.YtodhbldnmepmaaaDoorW.PrintWords Go.Proofs.YtodhbldnmepmaaaDoor.X Go.Proofs.YtodhbldnmepmaaaDoor.Pf Go.Proofs.YtodhbldnmepmaaaDoor.U
set_option linter.unusedSimpArgs false
theorem rd49 (l : List S49) (i : Nat) (h : i < l.length) : rd_T49 l (i : Int) = l[i] := by
  unfold rd_T49
  rw [Int.toNat_natCast, List.getD_eq_getElem?_getD, List.getElem?_eq_getElem h]
  rfl
theorem text_take (l : List S49) (i : Nat) (h : i < l.length) : textT (l.take (i + 1)) = textT (l.take i) ++ lineT l[i] := by
  unfold textT
  rw [List.take_succ_eq_append_getElem h, List.flatMap_append]
  simp
theorem text_take_le (l : List S49) (i : Nat) (h : i < l.length) : (textT (l.take i)).length + (l[i].f0.size + l[i].f1.size + 4) ≤ tot l ∧ (textT (l.take i)).length ≤ tot l := by
  rw [textT_len]
  exact tot_take l i h
theorem tok_split (a : Bs) : fieldTok a = true ↔ (a.takeWhile tokB ≠ [] ∧ a.dropWhile tokB = []) := by
  unfold fieldTok
  rw [Bool.and_eq_true, List.isEmpty_iff]
  cases a.takeWhile tokB <;> simp
theorem rprint_l0 (l : List S49) (ht : tot l ≤ 1000000) (hl : l.length ≤ 1000000) : ∀ (d i : Nat), l.length - i ≤ d → i ≤ l.length → (∀ x ∈ l.take i, okF x = true) → Ev (fun k => broadsheetref18_Print.l0 k l (B (textT (l.take i))) (i : Int)) (printV l) := by
  have fin : ∀ i, ¬ i < l.length → (∀ x ∈ l.take i, okF x = true) → Ev (fun k => broadsheetref18_Print.l0 k l (B (textT (l.take i))) (i : Int)) (printV l) := by
    intro i h hall
    rw [List.take_of_length_le (by omega)] at hall ⊢
    have hz : (textT l).length = tot l := textT_len l
    refine Ev.step (fun k => (show broadsheetref18_Print.l0 (k + 1) l (B (textT l)) (i : Int) = _ from by rw [broadsheetref18_Print.l0])) ?_
    refine Ev.ite_neg (by omega) (Ev.ite_pos (by rw [B_size]; omega) ?_)
    rw [show (⟨#[13, 10]⟩ : ByteArray) = B [13, 10] from rfl, B_append]
    unfold printV
    rw [if_pos (List.all_eq_true.2 hall)]
    by_cases hb : (textT l ++ [13, 10]).length > 8000
    · rw [if_pos hb]; exact Ev.ite_pos (by rw [B_size]; omega) (Ev.now _)
    · rw [if_neg hb]; exact Ev.ite_neg (by rw [B_size]; omega) (Ev.now _)
  intro d
  induction d with
  | zero => intro i hd hi hall; exact fin i (by omega) hall
  | succ d ih =>
    intro i hd hi hall
    by_cases h : i < l.length
    · refine Ev.step (fun k => (show broadsheetref18_Print.l0 (k + 1) l (B (textT (l.take i))) (i : Int) = _ from by rw [broadsheetref18_Print.l0])) ?_
      rw [rd49 l i h, wstep i (by omega)]
      obtain ⟨hs, hs2⟩ := text_take_le l i h
      obtain ⟨n, hn⟩ := B_eta l[i].f0
      obtain ⟨v, hv⟩ := B_eta l[i].f1
      have bad : okF l[i] = false → printV l = (⟨#[]⟩, 180) := fun hk => by
        unfold printV
        rw [if_neg]
        intro hall
        rw [List.all_eq_true.1 hall _ (List.getElem_mem h)] at hk
        cases hk
      have hok : okF l[i] = (fieldTok n && valB v) := by unfold okF; rw [hn, hv]; rfl
      rw [hn, hv] at hs
      have htk := text_take l i h
      unfold lineT at htk
      rw [hn, hv] at htk
      have hmem : okF l[i] = true → ∀ x ∈ l.take (i + 1), okF x = true := fun hk x hx => by
        rw [List.take_succ_eq_append_getElem h] at hx
        rcases List.mem_append.1 hx with hx | hx
        · exact hall x hx
        · rw [List.mem_singleton.1 hx]; exact hk
      have next := fun hk => ih (i + 1) (by omega) (by omega) (hmem hk)
      rw [htk] at next
      rw [hn, hv]
      rw [B_size, B_size] at hs
      refine Ev.ite_pos (by omega) (Ev.ite_pos (by omega) (Ev.bind (rtoken_ev n (by omega)) ?_))
      by_cases h1 : n.takeWhile tokB = []
      · rw [bad (by rw [hok, show fieldTok n = false from by rw [← Bool.not_eq_true, tok_split]; exact fun h => h.1 h1]; rfl)]
        exact Ev.ite_pos ((toList_nil _).2 h1) (Ev.now _)
      · refine Ev.ite_neg (fun hh => h1 ((toList_nil _).1 hh)) ?_
        by_cases h2 : n.dropWhile tokB = []
        · have h3 : fieldTok n = true := (tok_split n).2 ⟨h1, h2⟩
          rw [h3, Bool.true_and] at hok
          refine Ev.ite_pos ((toList_nil _).2 h2) (Ev.bind (rvalue_ev v (by omega)) ?_)
          cases hv2 : valB v with
          | true =>
            rw [show (⟨#[13, 10]⟩ : ByteArray) = B [13, 10] from rfl, show (⟨#[58, 32]⟩ : ByteArray) = B [58, 32] from rfl, B_append, B_append, B_append, B_append, B_size, B_size, B_size, B_size, B_size, B_size]
            have e : textT (l.take i) ++ n ++ [58, 32] ++ v ++ [13, 10] = textT (l.take i) ++ (L (B n) ++ [58, 32] ++ L (B v) ++ [13, 10]) := by
              show textT (l.take i) ++ n ++ [58, 32] ++ v ++ [13, 10] = textT (l.take i) ++ (n ++ [58, 32] ++ v ++ [13, 10])
              simp only [List.append_assoc]
            rw [e]
            refine Ev.ite_pos rfl (Ev.ite_pos (by omega) (Ev.ite_pos ?_ (Ev.ite_pos ?_ (Ev.ite_pos ?_ (next (by rw [hok, hv2]))))))
            all_goals simp only [List.length_append, List.length_cons, List.length_nil]; omega
          | false =>
            rw [bad (by rw [hok, hv2])]
            exact Ev.ite_neg (by decide) (Ev.now _)
        · rw [bad (by rw [hok, show fieldTok n = false from by rw [← Bool.not_eq_true, tok_split]; exact fun h => h2 h.2]; rfl)]
          exact Ev.ite_neg (fun hh => h2 ((toList_nil _).1 hh)) (Ev.now _)
    · exact fin i h hall
theorem rprint_ev (l : List S49) (ht : tot l ≤ 1000000) (hl : l.length ≤ 1000000) : Ev (fun k => broadsheetref18_Print.f k l) (printV l) :=
  rprint_l0 l ht hl l.length 0 (by omega) (by omega) (by simp)
theorem gprint (l : List S49) (ht : tot l ≤ 1000000) (hl : l.length ≤ 1000000) : field_Print.f l = some (printV l) := by
  unfold field_Print.f
  rw [if_pos ⟨ht, hl⟩]
theorem many_l0 (s : Bs) (m : Nat) (hm : m ≤ 100000) (hs : s.length ≤ 100000) : ∀ (d i : Nat) (acc : Bs), m - i ≤ d → i ≤ m → acc.length ≤ s.length * i → ∃ r : Bs, r.length ≤ s.length * m ∧ Ev (fun k => broadsheetlaw18_many.l0 k (B s) (m : Int) (B acc) (i : Int)) (B r) := by
  have fin : ∀ i acc, ¬ i < m → i ≤ m → acc.length ≤ s.length * i → ∃ r : Bs, r.length ≤ s.length * m ∧ Ev (fun k => broadsheetlaw18_many.l0 k (B s) (m : Int) (B acc) (i : Int)) (B r) := by
    intro i acc h h2 ha
    obtain rfl : i = m := by omega
    refine ⟨acc, ha, ?_⟩
    refine Ev.step (fun k => (show broadsheetlaw18_many.l0 (k + 1) (B s) (i : Int) (B acc) (i : Int) = _ from by rw [broadsheetlaw18_many.l0])) ?_
    exact Ev.ite_neg (by omega) (Ev.now _)
  intro d
  induction d with
  | zero => intro i acc hd hi ha; exact fin i acc (by omega) hi ha
  | succ d ih =>
    intro i acc hd hi ha
    by_cases h : i < m
    · have hb : acc.length + s.length ≤ s.length * (i + 1) := by rw [Nat.mul_add]; omega
      have hc : s.length * (i + 1) ≤ s.length * m := Nat.mul_le_mul_left _ (by omega)
      have hd2 : s.length * m ≤ 100000 * 100000 := Nat.mul_le_mul hs hm
      obtain ⟨r, hr, he⟩ := ih (i + 1) (acc ++ s) (by omega) (by omega) (by rw [List.length_append]; exact hb)
      refine ⟨r, hr, ?_⟩
      refine Ev.step (fun k => (show broadsheetlaw18_many.l0 (k + 1) (B s) (m : Int) (B acc) (i : Int) = _ from by rw [broadsheetlaw18_many.l0])) ?_
      rw [wstep i (by omega), B_append]
      exact Ev.ite_pos (by omega) (Ev.ite_pos (by rw [B_size, B_size]; omega) he)
    · exact fin i acc h hi ha
theorem many_ev (s : Bs) (m : Nat) (hm : m ≤ 100000) (hs : s.length ≤ 100000) : ∃ r : Bs, r.length ≤ s.length * m ∧ Ev (fun k => broadsheetlaw18_many.f k (B s) (m : Int)) (B r) :=
  many_l0 s m hm hs m 0 [] (by omega) (by omega) (by simp)
/-- The sizes of a list's texts, and one for each pair. -/
def sumN : List S49 → Nat
  | [] => 0
  | x :: r => x.f0.size + x.f1.size + 1 + sumN r
theorem sumN_append (l r : List S49) : sumN (l ++ r) = sumN l + sumN r := by
  induction l with
  | nil => simp [sumN]
  | cons x l ih => simp only [List.cons_append, sumN, ih]; omega
theorem sumN_tot : ∀ l : List S49, tot l ≤ 4 * sumN l ∧ l.length ≤ sumN l
  | [] => ⟨Nat.le_refl _, Nat.le_refl _⟩
  | x :: r => by
    have := sumN_tot r
    simp only [tot, sumN, List.length_cons]
    omega
theorem sumN_take (l : List S49) (i : Nat) (h : i < l.length) : sumN (l.take (i + 1)) = sumN (l.take i) + (l[i].f0.size + l[i].f1.size + 1) ∧ sumN (l.take i) ≤ sumN l := by
  constructor
  · rw [List.take_succ_eq_append_getElem h, sumN_append]
    simp [sumN]
  · conv => rhs; rw [← List.take_append_drop i l]
    rw [sumN_append]
    omega
def Short (l : List S49) : Prop := ∀ x ∈ l, x.f0.size ≤ 140737488351232 ∧ x.f1.size ≤ 140737488351232
theorem few_l0 (l : List S49) (hS : Short l) : ∀ (d i : Nat), l.length - i ≤ d → i ≤ l.length → sumN (l.take i) ≤ 400000000000000 → ∃ b : Bool, (b = true → sumN l ≤ 2000) ∧ Ev (fun k => broadsheetlaw18_few.l0 k l (sumN (l.take i) : Int) (i : Int)) b := by
  have fin : ∀ i, ¬ i < l.length → i ≤ l.length → ∃ b : Bool, (b = true → sumN l ≤ 2000) ∧ Ev (fun k => broadsheetlaw18_few.l0 k l (sumN (l.take i) : Int) (i : Int)) b := by
    intro i h h2
    refine ⟨decide ((sumN (l.take i) : Int) ≤ 2000), fun h3 => ?_, ?_⟩
    · rw [List.take_of_length_le (by omega)] at h3
      have := of_decide_eq_true h3
      omega
    · refine Ev.step (fun k => (show broadsheetlaw18_few.l0 (k + 1) l (sumN (l.take i) : Int) (i : Int) = _ from by rw [broadsheetlaw18_few.l0])) ?_
      exact Ev.ite_neg (by omega) (Ev.now _)
  intro d
  induction d with
  | zero => intro i hd hi hs; exact fin i (by omega) hi
  | succ d ih =>
    intro i hd hi hs
    by_cases h : i < l.length
    · by_cases h1 : sumN (l.take i) ≤ 2000
      · obtain ⟨e, _⟩ := sumN_take l i h
        have hi2 := (sumN_tot (l.take i)).2
        rw [List.length_take] at hi2
        obtain ⟨b0, b1⟩ := hS l[i] (List.getElem_mem h)
        obtain ⟨b, hb, he⟩ := ih (i + 1) (by omega) (by omega) (by omega)
        refine ⟨b, hb, ?_⟩
        refine Ev.step (fun k => (show broadsheetlaw18_few.l0 (k + 1) l (sumN (l.take i) : Int) (i : Int) = _ from by rw [broadsheetlaw18_few.l0])) ?_
        rw [rd49 l i h, wstep i (by omega), w64 (x := (sumN (l.take i) : Int) + (l[i].f0.size : Int)) (by omega) (by omega), w64 (x := (sumN (l.take i) : Int) + (l[i].f0.size : Int) + (l[i].f1.size : Int)) (by omega) (by omega), w64 (by omega) (by omega)]
        rw [e, show ((sumN (l.take i) + (l[i].f0.size + l[i].f1.size + 1) : Nat) : Int) = (sumN (l.take i) : Int) + (l[i].f0.size : Int) + (l[i].f1.size : Int) + 1 from by omega] at he
        exact Ev.ite_pos (by omega) (Ev.ite_pos (by omega) (Ev.ite_pos (by omega) he))
      · refine ⟨decide ((sumN (l.take i) : Int) ≤ 2000), fun h3 => ?_, ?_⟩
        · have := of_decide_eq_true h3
          omega
        · refine Ev.step (fun k => (show broadsheetlaw18_few.l0 (k + 1) l (sumN (l.take i) : Int) (i : Int) = _ from by rw [broadsheetlaw18_few.l0])) ?_
          exact Ev.ite_pos (by omega) (Ev.ite_neg (by omega) (Ev.now _))
    · exact fin i h hi
theorem few_ev (l : List S49) (hS : Short l) : ∃ b : Bool, (b = true → tot l ≤ 8000 ∧ l.length ≤ 2000) ∧ Ev (fun k => broadsheetlaw18_few.f k l) b := by
  obtain ⟨b, hb, he⟩ := few_l0 l hS l.length 0 (by omega) (by omega) (by simp [sumN])
  refine ⟨b, fun h => ?_, he⟩
  have := hb h
  have := sumN_tot l
  omega
end Go.Proofs.YtodhbldnmepmaaaDoor.F
