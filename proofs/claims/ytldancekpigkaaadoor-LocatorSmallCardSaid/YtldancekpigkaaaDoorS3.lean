/- Plain law: which signs may be, as the reference tells. -/
import Derived.Test.YtldancekpigkaaaDoorS2
namespace Go.Proofs.YtldancekpigkaaaDoor.S
open Go.RowKit Go.Lib Go.Proofs.YtldancekpigkaaaDoorW.PrintWords Go.Proofs.YtldancekpigkaaaDoor.X Go.Proofs.YtldancekpigkaaaDoor.Pl Go.Proofs.YtldancekpigkaaaDoor.U
set_option linter.unusedSimpArgs false

theorem signs_step (more l : Bs) (i : Nat) (h : i < l.length) : signsL more (l.drop i) = if okC more l[i] = true then signsL more (l.drop (i + 1)) else if l[i] = 37 then (if hexL (l.drop (i + 1)) = true then signsL more (l.drop (i + 3)) else false) else false := by
  have hd1 : l.drop i = l[i] :: l.drop (i + 1) := List.drop_eq_getElem_cons h
  have hlen : (l.drop i).length = (l.drop (i + 1)).length + 1 := by rw [hd1, List.length_cons]
  have hd3 : l.drop (i + 3) = (l.drop (i + 1)).drop 2 := by rw [List.drop_drop]
  unfold signsL
  rw [hlen, hd1, signsN, hd3, signs_fuel more (l.drop (i + 1)).length ((l.drop (i + 1)).drop 2).length ((l.drop (i + 1)).drop 2) (by rw [List.length_drop]; omega) (Nat.le_refl _)]
theorem rsigns_l0 (more l : Bs) (hl : l.length < 4611686018427387000) (hm : more.length < 1000) : ∀ (d i : Nat), l.length - i ≤ d → i ≤ l.length + 2 → Ev (fun k => broadsheetref12_signs.l0 k (B l) (B more) (i : Int)) (signsL more (l.drop i)) := by
  have fin : ∀ (i : Nat), l.length ≤ i → Ev (fun k => broadsheetref12_signs.l0 k (B l) (B more) (i : Int)) (signsL more (l.drop i)) := by
    intro i hi
    rw [List.drop_eq_nil_of_le (by omega)]
    refine Ev.step (fun k => (show broadsheetref12_signs.l0 (k + 1) (B l) (B more) i = _ from by rw [broadsheetref12_signs.l0])) ?_
    simp only [if_neg (show ¬ (i : Int) < ((B l).size : Int) by rw [B_size]; omega)]
    exact Ev.now _
  intro d
  induction d with
  | zero => intro i hd hi; exact fin i (by omega)
  | succ d ih =>
    intro i hd hi
    by_cases h : i < l.length
    · have e1 : wrap64 ((i : Int) + 1) = ((i + 1 : Nat) : Int) := by rw [w64 (by omega) (by omega)]; rfl
      have e2 : wrap64 ((i : Int) + 2) = ((i + 2 : Nat) : Int) := by rw [w64 (by omega) (by omega)]; rfl
      have e3 : wrap64 (((i + 2 : Nat) : Int) + 1) = ((i + 3 : Nat) : Int) := by rw [w64 (by omega) (by omega)]; rfl
      rw [signs_step more l i h]
      have yes : okC more l[i] = true → Ev (fun k => broadsheetref12_signs.j1 k (B l) (B more) (i : Int) (l[i].toNat : Int) true) (if okC more l[i] = true then signsL more (l.drop (i + 1)) else if l[i] = 37 then (if hexL (l.drop (i + 1)) = true then signsL more (l.drop (i + 3)) else false) else false) := by
        intro ho
        refine Ev.step (fun k => (show broadsheetref12_signs.j1 (k + 1) (B l) (B more) i (l[i].toNat : Int) true = _ from by rw [broadsheetref12_signs.j1])) ?_
        simp only [if_true, e1]
        rw [if_pos ho]
        exact ih (i + 1) (by omega) (by omega)
      have eb : (⟨#[45, 46, 95, 126, 33, 36, 38, 39, 40, 41, 42, 43, 44, 59, 61, 58, 64]⟩ : ByteArray) = B baseS := rfl
      refine Ev.step (fun k => (show broadsheetref12_signs.l0 (k + 1) (B l) (B more) i = _ from by rw [broadsheetref12_signs.l0])) ?_
      simp only [if_pos (show (i : Int) < ((B l).size : Int) by rw [B_size]; omega), if_pos (show (0 : Int) ≤ (i : Int) by omega), bt_val l i h, ralpha, rdigit, Option.bind_some, eb]
      cases ha : alphaB l[i] with
      | true => simp only [if_true]; exact yes (by unfold okC; rw [ha]; rfl)
      | false =>
        simp only [Bool.false_eq_true, if_false]
        cases hg : digitB l[i] with
        | true => simp only [if_true]; exact yes (by unfold okC; rw [hg]; simp)
        | false =>
          simp only [Bool.false_eq_true, if_false]
          by_cases h127 : (127 : UInt8) < l[i]
          · have h127' : ((l[i].toNat : Nat) : Int) > 127 := by have := UInt8.lt_iff_toNat_lt.1 h127; have e : (127 : UInt8).toNat = 127 := rfl; omega
            simp only [if_pos h127']
            exact yes (by unfold okC; rw [decide_eq_true h127]; simp)
          · have h127' : ¬ ((l[i].toNat : Nat) : Int) > 127 := by intro hh; apply h127; rw [UInt8.lt_iff_toNat_lt]; have e : (127 : UInt8).toNat = 127 := rfl; omega
            simp only [if_neg h127']
            have ho : okC more l[i] = (more.contains l[i] || baseS.contains l[i]) := by
              unfold okC
              rw [ha, hg, decide_eq_false h127]
              simp only [Bool.false_or]
              rw [Bool.eq_iff_iff, Bool.or_eq_true, List.contains_iff_mem, List.contains_iff_mem, List.contains_iff_mem, List.mem_append]
            refine Ev.bind (ramong_ev l[i] baseS (by decide)) ?_
            cases hc : baseS.contains l[i] with
            | true => simp only [if_true]; exact yes (by rw [ho, hc]; simp)
            | false =>
              simp only [Bool.false_eq_true, if_false]
              refine Ev.bind (ramong_ev l[i] more (by omega)) ?_
              cases hc2 : more.contains l[i] with
              | true => exact yes (by rw [ho, hc2]; simp)
              | false =>
                rw [if_neg (show ¬ okC more l[i] = true by rw [ho, hc, hc2]; decide)]
                refine Ev.step (fun k => (show broadsheetref12_signs.j1 (k + 1) (B l) (B more) i (l[i].toNat : Int) false = _ from by rw [broadsheetref12_signs.j1])) ?_
                simp only [Bool.false_eq_true, if_false, e1, e2, e3]
                by_cases h37 : l[i] = 37
                · simp only [if_pos (show (l[i].toNat : Int) = 37 from val_eq _ 37 h37), if_pos h37]
                  by_cases hi2 : i + 2 < l.length
                  · have hx : hexL (l.drop (i + 1)) = (hexB l[i + 1] && hexB l[i + 2]) := by
                      rw [List.drop_eq_getElem_cons (show i + 1 < l.length by omega), List.drop_eq_getElem_cons hi2]
                      rfl
                    rw [hx]
                    simp only [if_pos (show ((i + 2 : Nat) : Int) < ((B l).size : Int) by rw [B_size]; omega), if_pos (show (0 : Int) ≤ ((i + 1 : Nat) : Int) by omega), if_pos (show ((i + 1 : Nat) : Int) < ((B l).size : Int) by rw [B_size]; omega), if_pos (show (0 : Int) ≤ ((i + 2 : Nat) : Int) by omega), bt_val l (i + 1) (by omega), bt_val l (i + 2) hi2, rhex, Option.bind_some]
                    cases h1 : hexB l[i + 1] with
                    | false =>
                      simp only [Bool.false_eq_true, if_false, Bool.false_and]
                      exact Ev.now _
                    | true =>
                      simp only [if_true, Bool.true_and]
                      cases h2 : hexB l[i + 2] with
                      | false =>
                        simp only [Bool.false_eq_true, if_false]
                        exact Ev.now _
                      | true =>
                        simp only [if_true]
                        exact ih (i + 3) (by omega) (by omega)
                  · have hx : hexL (l.drop (i + 1)) = false := by
                      have hlen : (l.drop (i + 1)).length ≤ 1 := by rw [List.length_drop]; omega
                      generalize l.drop (i + 1) = t at hlen
                      match t, hlen with
                      | [], _ => rfl
                      | [a], _ => rfl
                    simp only [if_neg (show ¬ ((i + 2 : Nat) : Int) < ((B l).size : Int) by rw [B_size]; omega)]
                    rw [hx]
                    exact Ev.now _
                · simp only [if_neg (show ¬ (l[i].toNat : Int) = 37 from val_ne _ 37 h37), if_neg h37]
                  exact Ev.now _
    · exact fin i (by omega)
theorem rsigns_ev (more l : Bs) (hl : l.length < 4611686018427387000) (hm : more.length < 1000) : Ev (fun k => broadsheetref12_signs.f k (B l) (B more)) (signsL more l) :=
  rsigns_l0 more l hl hm l.length 0 (by omega) (by omega)
end Go.Proofs.YtldancekpigkaaaDoor.S
