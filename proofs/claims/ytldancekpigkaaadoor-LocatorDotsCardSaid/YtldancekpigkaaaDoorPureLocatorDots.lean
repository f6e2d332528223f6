/- Plain law: dots that are gone are gone (LocatorDots). -/
import Derived.Test.YtldancekpigkaaaDoorS7
import Derived.Test.YtldancekpigkaaaDoorPc1
namespace Go.Proofs.YtldancekpigkaaaDoor.Pure
open Go.RowKit Go.Lib Go.Proofs.YtldancekpigkaaaDoorW.PrintWords Go.Proofs.YtldancekpigkaaaDoor.X Go.Proofs.YtldancekpigkaaaDoor.Pl Go.Proofs.YtldancekpigkaaaDoor.Pc Go.Proofs.YtldancekpigkaaaDoor.U Go.Proofs.YtldancekpigkaaaDoor.S
set_option linter.unusedSimpArgs false

theorem ldots_l0 (s a : Bs) (hs : s.length ≤ 2000) (ha : a.length ≤ s.length) (hc : DotFree a) (hd : Ev (fun k => locator_Dots.f k (B a)) (B a)) :
    ∀ (d i : Nat), a.length - i ≤ d → i ≤ a.length → Ev (fun k => broadsheetlaw12_LocatorDots.l0 k (B s) true (B a) (i : Int)) true := by
  have fin : ∀ (i : Nat), ¬ i + 1 < a.length → i ≤ a.length → Ev (fun k => broadsheetlaw12_LocatorDots.l0 k (B s) true (B a) (i : Int)) true := by
    intro i hi hi2
    refine Ev.step (fun k => (show broadsheetlaw12_LocatorDots.l0 (k + 1) (B s) true (B a) i = _ from by rw [broadsheetlaw12_LocatorDots.l0])) ?_
    refine Ev.ite_neg (by rw [B_size, w64 (by omega) (by omega)]; omega) (Ev.ite_pos rfl (Ev.bind hd (Ev.ite_pos rfl ?_)))
    rw [show decide (((B a).size : Int) ≤ wrap64 (((B s).size : Int) + 1)) = true from decide_eq_true (by rw [B_size, B_size, w64 (by omega) (by omega)]; omega)]
    exact Ev.now _
  intro d
  induction d with
  | zero => intro i h1 h2; exact fin i (by omega) h2
  | succ d ih =>
    intro i h1 h2
    by_cases h : i + 1 < a.length
    · have e1 : wrap64 ((i : Int) + 1) = ((i + 1 : Nat) : Int) := by rw [w64 (by omega) (by omega)]; rfl
      have e2 : wrap64 ((i : Int) + 2) = ((i + 2 : Nat) : Int) := by rw [w64 (by omega) (by omega)]; rfl
      have e3 : wrap64 ((i : Int) + 3) = ((i + 3 : Nat) : Int) := by rw [w64 (by omega) (by omega)]; rfl
      have next := ih (i + 1) (by omega) (by omega)
      have hi : i < a.length := by omega
      have hdr : a.drop i = a[i] :: a[i + 1] :: a.drop (i + 2) := by
        rw [List.drop_eq_getElem_cons hi, List.drop_eq_getElem_cons h]
      obtain ⟨c1, c2⟩ := hc i
      refine Ev.step (fun k => (show broadsheetlaw12_LocatorDots.l0 (k + 1) (B s) true (B a) i = _ from by rw [broadsheetlaw12_LocatorDots.l0])) ?_
      simp only [e1, e2, e3]
      refine Ev.ite_pos (by rw [B_size]; omega) (Ev.ite_pos (by omega) (Ev.ite_pos (by rw [B_size]; omega) ?_))
      by_cases q1 : a[i] = 47
      · refine Ev.ite_pos (by rw [bt_val a i hi, q1]; rfl) (Ev.ite_pos (by omega) ?_)
        by_cases q2 : a[i + 1] = 46
        · refine Ev.ite_pos (by rw [bt_val a (i + 1) h, q2]; rfl) ?_
          rw [q1, q2] at hdr
          by_cases h3 : i + 2 < a.length
          · refine Ev.ite_neg (by rw [B_size]; omega) (Ev.ite_pos (by omega) (Ev.ite_pos (by rw [B_size]; omega) ?_))
            have hdr2 : a.drop i = 47 :: 46 :: a[i + 2] :: a.drop (i + 3) := by rw [hdr, List.drop_eq_getElem_cons h3]
            have q3 : a[i + 2] ≠ 47 := by
              intro e
              rw [hdr2, e] at c1
              exact c1 rfl
            refine Ev.ite_neg (by rw [bt_val a (i + 2) h3]; exact val_ne _ 47 q3) ?_
            by_cases q4 : a[i + 2] = 46
            · refine Ev.ite_pos (by rw [bt_val a (i + 2) h3, q4]; rfl) ?_
              rw [q4] at hdr2
              by_cases h4 : i + 3 < a.length
              · refine Ev.ite_neg (by rw [B_size]; omega) (Ev.ite_pos (by omega) (Ev.ite_pos (by rw [B_size]; omega) ?_))
                have q5 : a[i + 3] ≠ 47 := by
                  intro e
                  rw [hdr2, List.drop_eq_getElem_cons h4, e] at c2
                  exact c2 rfl
                exact Ev.ite_neg (by rw [bt_val a (i + 3) h4]; exact val_ne _ 47 q5) next
              · rw [hdr2, List.drop_eq_nil_of_le (by omega)] at c2
                exact absurd rfl c2
            · exact Ev.ite_neg (by rw [bt_val a (i + 2) h3]; exact val_ne _ 46 q4) next
          · rw [hdr, List.drop_eq_nil_of_le (by omega)] at c1
            exact absurd rfl c1
        · exact Ev.ite_neg (by rw [bt_val a (i + 1) h]; exact val_ne _ 46 q2) next
      · exact Ev.ite_neg (by rw [bt_val a i hi]; exact val_ne _ 47 q1) next
    · exact fin i h h2

theorem LocatorDots : broadsheetlaw12_LocatorDots.Pure := by
  intro a _
  obtain ⟨s, rfl⟩ := B_eta a
  refine Ev.rounds (g := fun k => broadsheetlaw12_LocatorDots.f k (B s)) ?_
  unfold broadsheetlaw12_LocatorDots.f broadsheetlaw12_awake.f
  refine Ev.some_bind (Ev.ite_pos rfl ?_)
  by_cases hs : s.length > 2000
  · refine Ev.ite_pos (by rw [B_size]; omega) (Ev.now _)
  · refine Ev.ite_neg (by rw [B_size]; omega) ?_
    obtain ⟨l1, l2, l3⟩ := dots_law s
    have hd := gdots_ev s (by omega)
    have hd2 := gdots_ev (dotsL s []).flatten (by omega)
    rw [l2] at hd2
    exact Ev.bind hd (ldots_l0 s _ (by omega) l3 l1 hd2 _ 0 (Nat.le_refl _) (by omega))
end Go.Proofs.YtldancekpigkaaaDoor.Pure
