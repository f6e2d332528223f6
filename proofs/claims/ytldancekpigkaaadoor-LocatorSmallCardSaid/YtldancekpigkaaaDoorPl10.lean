-- Printed by xprint.py, this session's program over the kit's printer, out of the translation. Not trusted: Lean checks it.
import Derived.Test.YtldancekpigkaaaDoorPl0
import Derived.Test.YtldancekpigkaaaDoorXExt
namespace Go.Proofs.YtldancekpigkaaaDoor.Pl
open Go.RowKit Go.Proofs.YtldancekpigkaaaDoorW.PrintWords Go.Proofs.YtldancekpigkaaaDoorW.PrintLast Go.Proofs.YtldancekpigkaaaDoorW.PrintMore
attribute [local go_sem] max2_int min2_int max_two min_two max_three min_three max_four min_four   -- for this text's walks alone
open Go.Proofs.YtldancekpigkaaaDoor.X
set_option linter.unusedVariables false
set_option linter.unusedSimpArgs false

/-! ### broadsheetref12_Print: function 15 -/
def broadsheetlaw05_Pieces.l0 : Nat → List Int → List ByteArray → ByteArray → Int → Option (ByteArray)
  | 0, _, _, _, _ => none
  | k + 1, x0, x1, x5, x6 => if x6 < (x0.length : Int) then (if x6 < 12 then (if 0 ≤ x6 then (if (x1.length : Int) = 0 then (none) else (if 0 ≤ (Int.tmod (wrap64 (rd x0 x6)) (x1.length : Int)) then (if (Int.tmod (wrap64 (rd x0 x6)) (x1.length : Int)) < (x1.length : Int) then (if x5.size + (rdOf ByteArray.empty x1 (Int.tmod (wrap64 (rd x0 x6)) (x1.length : Int))).size ≤ 9223372036854775807 then (broadsheetlaw05_Pieces.l0 k x0 x1 (x5 ++ (rdOf ByteArray.empty x1 (Int.tmod (wrap64 (rd x0 x6)) (x1.length : Int)))) (wrap64 (x6 + 1))) else (none)) else (none)) else (none))) else (none)) else (some x5)) else (some x5)
def broadsheetlaw05_Pieces.f (k : Nat) (l0 : List Int) (l1 : List ByteArray) : Option (ByteArray) := broadsheetlaw05_Pieces.l0 k l0 l1 (⟨#[]⟩ : ByteArray) 0
theorem broadsheetlaw05_Pieces.mono_l : ∀ k, (∀ y0 y1 y2 y3, LeO (broadsheetlaw05_Pieces.l0 k y0 y1 y2 y3) (broadsheetlaw05_Pieces.l0 (k + 1) y0 y1 y2 y3))
  | 0 => fun _ _ _ _ r h => by simp [broadsheetlaw05_Pieces.l0] at h
  | k + 1 => by
    have ih0 := broadsheetlaw05_Pieces.mono_l k
    · intro y0 y1 y2 y3
      unfold broadsheetlaw05_Pieces.l0
      repeat' first
      | (with_reducible exact ih0 _ _ _ _)
      | (with_reducible exact LeO.refl _)
      | (with_reducible exact LeO.none _)
      | (with_reducible refine LeO.ite ?_ ?_)
      | (with_reducible refine LeO.bind ?_ (fun _ => ?_))
      | exact ih0 _ _ _ _
      | exact LeO.none _
      | refine LeO.ite ?_ ?_
      | refine LeO.bind ?_ (fun _ => ?_)
theorem broadsheetlaw05_Pieces.mono : ∀ a0 a1 k, LeO (broadsheetlaw05_Pieces.f k a0 a1) (broadsheetlaw05_Pieces.f (k + 1) a0 a1) := by
  intro a0 a1 k
  have ih0 := broadsheetlaw05_Pieces.mono_l k
  unfold broadsheetlaw05_Pieces.f
  repeat' first
      | (with_reducible exact ih0 _ _ _ _)
      | (with_reducible exact LeO.refl _)
      | (with_reducible exact LeO.none _)
      | (with_reducible refine LeO.ite ?_ ?_)
      | (with_reducible refine LeO.bind ?_ (fun _ => ?_))
      | exact ih0 _ _ _ _
      | exact LeO.none _
      | refine LeO.ite ?_ ?_
      | refine LeO.bind ?_ (fun _ => ?_)
set_option maxHeartbeats 8000000 in
set_option maxRecDepth 100000 in
theorem broadsheetlaw05_Pieces.calls (k : Nat) (A0 : Option Addr) (c0 : Nat) (l0 : List Int) (A1 : Option Addr) (c1 : Nat) (l1 : List ByteArray) (r : ByteArray) (w : World) (hr0 : Kd.C (Kd.int .u8) w A0 l0.length l0) (hc0 : l0.length ≤ c0) (hr1 : Kd.C Kd.string w A1 l1.length l1) (hc1 : l1.length ≤ c1) (h : broadsheetlaw05_Pieces.f k l0 l1 = some r) :
    Calls Tryd.prog 21 #[.slice A0 l0.length c0, .slice A1 l1.length c1] w fun e w' => e = .returned (.string r) ∧ Drawn0 w w' := by
  have HR0 := Aside0.mk hr0
  have HC0 := Aside0.mk hc0
  clear hr0 hc0
  have HR1 := Aside0.mk hr1
  have HC1 := Aside0.mk hc1
  clear hr1 hc1
  have H : (broadsheetlaw05_Pieces.l0 k l0 l1 (⟨#[]⟩ : ByteArray) 0) = some r := h
  clear h
  have H' := Aside0.mk H
  clear H
  go_enter Tryd.func21, Tryd.ntmps21
  go_wp2
  go_loopg [5, 6] k (fun kq v5 v6 w' => ∃ (x5_1 : ByteArray) (x6_1 : Int), v5 = .string x5_1 ∧ v6 = .int .i64 x6_1 ∧ Aside0 (broadsheetlaw05_Pieces.l0 kq l0 l1 x5_1 x6_1 = some r) ∧ Aside0 (kq ≤ k) ∧ Drawn0 w w')
  case atStart => exact ⟨((⟨#[]⟩ : ByteArray)), (0), (by first | rfl | (simp; done) | (simp [*]; done) | (simp [xx_ne_nil, xx_eq_nil]; done) | (simp [*, xx_ne_nil, xx_eq_nil]; done)), (by first | rfl | (simp; done) | (simp [*]; done) | (simp [xx_ne_nil, xx_eq_nil]; done) | (simp [*, xx_ne_nil, xx_eq_nil]; done)), H', ⟨Nat.le_refl _⟩, by repeat (first | exact Drawn0.refl _ | apply Drawn0.step)⟩
  case round =>
    clear H'
    try clear c1
    try clear c2
    try clear p2
    obtain ⟨x5_1, x6_1, rfl, rfl, HA, HK1, ⟨m1, rfl⟩⟩ := hrel
    cases gk with
    | zero => exact absurd HA.out (by simp [broadsheetlaw05_Pieces.l0])
    | succ k1 =>
      have H := HA.out
      clear HA
      simp only [broadsheetlaw05_Pieces.l0] at H
      by_cases c3 : x6_1 < (l0.length : Int)
      · rw [if_pos c3] at H
        have c3b0 : decide (x6_1 < (l0.length : Int)) = true := decide_eq_true c3
        clear c3
        by_cases c4 : x6_1 < 12
        · rw [if_pos c4] at H
          have c4b0 : decide (x6_1 < 12) = true := decide_eq_true c4
          clear c4
          by_cases c5 : 0 ≤ x6_1
          · rw [if_pos c5] at H
            have c5b0 : decide (0 ≤ x6_1) = true := decide_eq_true c5
            clear c5
            by_cases c6 : (l1.length : Int) = 0
            · rw [if_pos c6] at H
              exact absurd H (by simp)
            · rw [if_neg c6] at H
              have c6b0 : ((l1.length : Int) == 0) = false := beq_eq_false_iff_ne.mpr c6
              have c6b1 : ((l1.length : Int) != 0) = true := bne_iff_ne.mpr c6
              have c6b2 : ¬ (l1 = []) := fun h_ => c6 (by rw [h_]; rfl)
              obtain ⟨ji7, hji7⟩ : ∃ j_ : Int, (Int.tmod (wrap64 (rd l0 x6_1)) (l1.length : Int)) = j_ := ⟨_, rfl⟩
              replace H : (if 0 ≤ (ji7) then (if (ji7) < (l1.length : Int) then (if x5_1.size + (rdOf ByteArray.empty l1 (ji7)).size ≤ 9223372036854775807 then (broadsheetlaw05_Pieces.l0 k1 l0 l1 (x5_1 ++ (rdOf ByteArray.empty l1 (ji7))) (wrap64 (x6_1 + 1))) else (none)) else (none)) else (none)) = some r := by first | (rw [hji7] at H; exact H) | (simp only [hji7] at H ⊢; exact H)
              by_cases c8 : 0 ≤ (ji7)
              · rw [if_pos c8] at H
                have c8b0 : decide (0 ≤ (ji7)) = true := decide_eq_true c8
                clear c8
                by_cases c9 : (ji7) < (l1.length : Int)
                · rw [if_pos c9] at H
                  have c9b0 : decide ((ji7) < (l1.length : Int)) = true := decide_eq_true c9
                  clear c9
                  by_cases c10 : x5_1.size + (rdOf ByteArray.empty l1 (ji7)).size ≤ 9223372036854775807
                  · rw [if_pos c10] at H
                    have c10b0 := eq_true c10
                    have c10b1 : decide (x5_1.size + (rdOf ByteArray.empty l1 (ji7)).size ≤ 9223372036854775807) = true := decide_eq_true c10
                    try have c10b2 : (9223372036854775807 < x5_1.size + (rdOf ByteArray.empty l1 (ji7)).size) = False := eq_false (Nat.not_lt.2 c10)
                    have H' := Aside0.mk H
                    clear H
                    have p254 : 0 ≤ (x6_1 : Int) := of_decide_eq_true (by first | (with_reducible assumption) | assumption)
                    have q254 : x6_1 < (l0.length : Int) := of_decide_eq_true (by first | (with_reducible assumption) | assumption)
                    obtain ⟨ad254, e254, hx254_0⟩ := Kd.at_int HR0.out x6_1 p254 q254
                    cases e254
                    replace p254 := eq_true p254
                    replace q254 := eq_true q254
                    have p255 : 0 ≤ ((ji7) : Int) := of_decide_eq_true (by first | (with_reducible assumption) | assumption)
                    have q255 : (ji7) < (l1.length : Int) := of_decide_eq_true (by first | (with_reducible assumption) | assumption)
                    obtain ⟨ad255, e255, hx255_0⟩ := Kd.at_string HR1.out (ji7) p255 q255
                    cases e255
                    replace p255 := eq_true p255
                    replace q255 := eq_true q255
                    go_wp2
                    go_roundg k1
                    case measure => have := HK1.out; omega
                    case rel => exact ⟨(x5_1 ++ (rdOf ByteArray.empty l1 (ji7))), (wrap64 (x6_1 + 1)), (by first | rfl | (simp; done) | (simp only [← hji7] <;> (first | rfl | simp)) | (simp [*]; done) | (simp [xx_ne_nil, xx_eq_nil]; done) | (simp [*, xx_ne_nil, xx_eq_nil]; done)), (by first | rfl | (simp; done) | (simp [*]; done) | (simp [xx_ne_nil, xx_eq_nil]; done) | (simp [*, xx_ne_nil, xx_eq_nil]; done)), H', ⟨by have := HK1.out; omega⟩, by repeat (first | exact Drawn0.refl _ | apply Drawn0.step)⟩
                  · rw [if_neg c10] at H
                    exact absurd H (by simp)
                · rw [if_neg c9] at H
                  exact absurd H (by simp)
              · rw [if_neg c8] at H
                exact absurd H (by simp)
          · rw [if_neg c5] at H
            exact absurd H (by simp)
        · rw [if_neg c4] at H
          have c4b0 : decide (x6_1 < 12) = false := decide_eq_false c4
          clear c4
          obtain rfl := Option.some.inj H
          go_wp2
          go_ret
          exact ⟨by first | rfl | (simp; done) | (simp [*]; done) | (simp [xx_ne_nil, xx_eq_nil]; done) | (simp [*, xx_ne_nil, xx_eq_nil]; done), by repeat (first | exact Drawn0.refl _ | apply Drawn0.step)⟩
      · rw [if_neg c3] at H
        have c3b0 : decide (x6_1 < (l0.length : Int)) = false := decide_eq_false c3
        clear c3
        obtain rfl := Option.some.inj H
        go_wp2
        go_ret
        exact ⟨by first | rfl | (simp; done) | (simp [*]; done) | (simp [xx_ne_nil, xx_eq_nil]; done) | (simp [*, xx_ne_nil, xx_eq_nil]; done), by repeat (first | exact Drawn0.refl _ | apply Drawn0.step)⟩

-- NOT PRINTED: function 9 (broadsheetlaw12_LocatorSmall)

end Go.Proofs.YtldancekpigkaaaDoor.Pl
