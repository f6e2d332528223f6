-- Printed by xprint.py, this session's program over the kit's printer, out of the translation. Not trusted: Lean checks it.
import Derived.Test.YtldancekpigkaaaDoorPl0
import Derived.Test.YtldancekpigkaaaDoorPl5
import Derived.Test.YtldancekpigkaaaDoorPl8
import Derived.Test.YtldancekpigkaaaDoorXExt
namespace Go.Proofs.YtldancekpigkaaaDoor.Pl
open Go.RowKit Go.Proofs.YtldancekpigkaaaDoorW.PrintWords Go.Proofs.YtldancekpigkaaaDoorW.PrintLast Go.Proofs.YtldancekpigkaaaDoorW.PrintMore
attribute [local go_sem] max2_int min2_int max_two min_two max_three min_three max_four min_four   -- for this text's walks alone
open Go.Proofs.YtldancekpigkaaaDoor.X
set_option linter.unusedVariables false
set_option linter.unusedSimpArgs false

/-! ### broadsheetref12_up: function 36 -/
def broadsheetref12_up.l0 : Nat → ByteArray → Int → Option (ByteArray)
  | 0, _, _ => none
  | k + 1, x0, x3 => if x3 ≥ 0 then (if 0 ≤ x3 then (if x3 < (x0.size : Int) then (if (bt x0 x3) = 47 then (if x3 ≤ (x0.size : Int) then (some (x0.extract 0 (x3 : Int).toNat)) else (none)) else (broadsheetref12_up.l0 k x0 (wrap64 (x3 - 1)))) else (none)) else (none)) else (some (⟨#[]⟩ : ByteArray))
def broadsheetref12_up.f (k : Nat) (a0 : ByteArray) : Option (ByteArray) := broadsheetref12_up.l0 k a0 (wrap64 ((a0.size : Int) - 1))
theorem broadsheetref12_up.mono_l : ∀ k, (∀ y0 y1, LeO (broadsheetref12_up.l0 k y0 y1) (broadsheetref12_up.l0 (k + 1) y0 y1))
  | 0 => fun _ _ r h => by simp [broadsheetref12_up.l0] at h
  | k + 1 => by
    have ih0 := broadsheetref12_up.mono_l k
    · intro y0 y1
      unfold broadsheetref12_up.l0
      repeat' first
      | (with_reducible exact ih0 _ _)
      | (with_reducible exact LeO.refl _)
      | (with_reducible exact LeO.none _)
      | (with_reducible refine LeO.ite ?_ ?_)
      | (with_reducible refine LeO.bind ?_ (fun _ => ?_))
      | exact ih0 _ _
      | exact LeO.none _
      | refine LeO.ite ?_ ?_
      | refine LeO.bind ?_ (fun _ => ?_)
theorem broadsheetref12_up.mono : ∀ a0 k, LeO (broadsheetref12_up.f k a0) (broadsheetref12_up.f (k + 1) a0) := by
  intro a0 k
  have ih0 := broadsheetref12_up.mono_l k
  unfold broadsheetref12_up.f
  repeat' first
      | (with_reducible exact ih0 _ _)
      | (with_reducible exact LeO.refl _)
      | (with_reducible exact LeO.none _)
      | (with_reducible refine LeO.ite ?_ ?_)
      | (with_reducible refine LeO.bind ?_ (fun _ => ?_))
      | exact ih0 _ _
      | exact LeO.none _
      | refine LeO.ite ?_ ?_
      | refine LeO.bind ?_ (fun _ => ?_)
set_option maxHeartbeats 8000000 in
set_option maxRecDepth 100000 in
theorem broadsheetref12_up.calls (k : Nat) (a0 : ByteArray) (r : ByteArray) (w : World) (h : broadsheetref12_up.f k a0 = some r) :
    Calls Tryd.prog 36 #[.string a0] w fun e w' => e = .returned (.string r) ∧ Drawn0 w w' := by
  have H : (broadsheetref12_up.l0 k a0 (wrap64 ((a0.size : Int) - 1))) = some r := h
  clear h
  have H' := Aside0.mk H
  clear H
  go_enter Tryd.func36, Tryd.ntmps36
  go_wp2
  go_loopg [3] k (fun kq v3 w' => ∃ (x3_1 : Int), v3 = .int .i64 x3_1 ∧ Aside0 (broadsheetref12_up.l0 kq a0 x3_1 = some r) ∧ Aside0 (kq ≤ k) ∧ Drawn0 w w')
  case atStart => exact ⟨(wrap64 ((a0.size : Int) - 1)), (by first | rfl | (simp; done) | (simp [*]; done) | (simp [xx_ne_nil, xx_eq_nil]; done) | (simp [*, xx_ne_nil, xx_eq_nil]; done)), H', ⟨Nat.le_refl _⟩, by repeat (first | exact Drawn0.refl _ | apply Drawn0.step)⟩
  case round =>
    clear H'
    obtain ⟨x3_1, rfl, HA, HK1, ⟨m1, rfl⟩⟩ := hrel
    cases gk with
    | zero => exact absurd HA.out (by simp [broadsheetref12_up.l0])
    | succ k1 =>
      have H := HA.out
      clear HA
      simp only [broadsheetref12_up.l0] at H
      by_cases c2 : x3_1 ≥ 0
      · rw [if_pos c2] at H
        have c2b0 : decide (0 ≤ x3_1) = true := decide_eq_true c2
        clear c2
        by_cases c3 : 0 ≤ x3_1
        · rw [if_pos c3] at H
          have c3b0 : decide (0 ≤ x3_1) = true := decide_eq_true c3
          clear c3
          by_cases c4 : x3_1 < (a0.size : Int)
          · rw [if_pos c4] at H
            have c4b0 : decide (x3_1 < (a0.size : Int)) = true := decide_eq_true c4
            clear c4
            by_cases c6 : (bt a0 x3_1) = 47
            · rw [if_pos c6] at H
              have c6b0 : ((bt a0 x3_1) == 47) = true := beq_iff_eq.mpr c6
              have c6b1 : ((bt a0 x3_1) != 47) = false := bne_eq_false_iff_eq.mpr c6
              clear c6
              have c7b0 := eq_true (of_decide_eq_true (by first | (with_reducible assumption) | assumption) : 0 ≤ x3_1)
              by_cases c8 : x3_1 ≤ (a0.size : Int)
              · rw [if_pos c8] at H
                have c8b0 := eq_true c8
                have c8b1 : decide (x3_1 ≤ (a0.size : Int)) = true := decide_eq_true c8
                clear c8
                obtain rfl := Option.some.inj H
                have p5 : 0 ≤ (x3_1 : Int) := of_decide_eq_true (by first | (with_reducible assumption) | assumption)
                have q5 : x3_1 < (a0.size : Int) := of_decide_eq_true (by first | (with_reducible assumption) | assumption)
                have hx5 := bt_at a0 x3_1
                replace p5 := eq_true p5
                replace q5 := eq_true q5
                go_wp2
                go_ret
                exact ⟨by first | rfl | (simp; done) | (simp [*]; done) | (simp [xx_ne_nil, xx_eq_nil]; done) | (simp [*, xx_ne_nil, xx_eq_nil]; done), by repeat (first | exact Drawn0.refl _ | apply Drawn0.step)⟩
              · rw [if_neg c8] at H
                exact absurd H (by simp)
            · rw [if_neg c6] at H
              have c6b0 : ((bt a0 x3_1) == 47) = false := beq_eq_false_iff_ne.mpr c6
              have c6b1 : ((bt a0 x3_1) != 47) = true := bne_iff_ne.mpr c6
              have H' := Aside0.mk H
              clear H
              have p5 : 0 ≤ (x3_1 : Int) := of_decide_eq_true (by first | (with_reducible assumption) | assumption)
              have q5 : x3_1 < (a0.size : Int) := of_decide_eq_true (by first | (with_reducible assumption) | assumption)
              have hx5 := bt_at a0 x3_1
              replace p5 := eq_true p5
              replace q5 := eq_true q5
              go_wp2
              go_roundg k1
              case measure => have := HK1.out; omega
              case rel => exact ⟨(wrap64 (x3_1 - 1)), (by first | rfl | (simp; done) | (simp [*]; done) | (simp [xx_ne_nil, xx_eq_nil]; done) | (simp [*, xx_ne_nil, xx_eq_nil]; done)), H', ⟨by have := HK1.out; omega⟩, by repeat (first | exact Drawn0.refl _ | apply Drawn0.step)⟩
          · rw [if_neg c4] at H
            exact absurd H (by simp)
        · rw [if_neg c3] at H
          exact absurd H (by simp)
      · rw [if_neg c2] at H
        have c2b0 : decide (0 ≤ x3_1) = false := decide_eq_false c2
        clear c2
        obtain rfl := Option.some.inj H
        go_wp2
        go_ret
        exact ⟨by first | rfl | (simp; done) | (simp [*]; done) | (simp [xx_ne_nil, xx_eq_nil]; done) | (simp [*, xx_ne_nil, xx_eq_nil]; done), by repeat (first | exact Drawn0.refl _ | apply Drawn0.step)⟩

/-! ### broadsheetref12_Dots: function 17 -/
def broadsheetref12_Dots.l0 : Nat → ByteArray → ByteArray → Option (ByteArray)
  | 0, _, _ => none
  | k + 1, x0, x3 => if (x0.size : Int) > 0 then ((broadsheetref12_begins.f x0 (⟨#[46, 46, 47]⟩ : ByteArray)).bind fun t228 => (if t228 = true then (if 3 ≤ (x0.size : Int) then (broadsheetref12_Dots.l0 k (x0.extract 3 x0.size) x3) else (none)) else ((broadsheetref12_begins.f x0 (⟨#[46, 47]⟩ : ByteArray)).bind fun t229 => (if t229 = true then (if 2 ≤ (x0.size : Int) then (broadsheetref12_Dots.l0 k (x0.extract 2 x0.size) x3) else (none)) else ((broadsheetref12_begins.f x0 (⟨#[47, 46, 47]⟩ : ByteArray)).bind fun t230 => (if t230 = true then (if 2 ≤ (x0.size : Int) then (broadsheetref12_Dots.l0 k (x0.extract 2 x0.size) x3) else (none)) else (if x0.toList = ([47, 46] : List UInt8) then (broadsheetref12_Dots.l0 k (⟨#[47]⟩ : ByteArray) x3) else ((broadsheetref12_begins.f x0 (⟨#[47, 46, 46, 47]⟩ : ByteArray)).bind fun t231 => (if t231 = true then (if 3 ≤ (x0.size : Int) then ((broadsheetref12_up.f k x3).bind fun t232 => (broadsheetref12_Dots.l0 k (x0.extract 3 x0.size) t232)) else (none)) else (if x0.toList = ([47, 46, 46] : List UInt8) then ((broadsheetref12_up.f k x3).bind fun t233 => (broadsheetref12_Dots.l0 k (⟨#[47]⟩ : ByteArray) t233)) else (if x0.toList = ([46] : List UInt8) then (broadsheetref12_Dots.l0 k (⟨#[]⟩ : ByteArray) x3) else (if x0.toList = ([46, 46] : List UInt8) then (broadsheetref12_Dots.l0 k (⟨#[]⟩ : ByteArray) x3) else (if 1 ≤ (x0.size : Int) then ((broadsheetref12_first.f k (x0.extract 1 x0.size) (⟨#[47]⟩ : ByteArray)).bind fun t234 => (if 0 ≤ (wrap64 (1 + t234)) then (if (wrap64 (1 + t234)) ≤ (x0.size : Int) then (if x3.size + (x0.extract 0 ((wrap64 (1 + t234)) : Int).toNat).size ≤ 9223372036854775807 then (broadsheetref12_Dots.l0 k (x0.extract ((wrap64 (1 + t234)) : Int).toNat x0.size) (x3 ++ (x0.extract 0 ((wrap64 (1 + t234)) : Int).toNat))) else (none)) else (none)) else (none))) else (none)))))))))))))) else (some x3)
def broadsheetref12_Dots.f (k : Nat) (a0 : ByteArray) : Option (ByteArray) := broadsheetref12_Dots.l0 k a0 (⟨#[]⟩ : ByteArray)
theorem broadsheetref12_Dots.mono_l : ∀ k, (∀ y0 y1, LeO (broadsheetref12_Dots.l0 k y0 y1) (broadsheetref12_Dots.l0 (k + 1) y0 y1))
  | 0 => fun _ _ r h => by simp [broadsheetref12_Dots.l0] at h
  | k + 1 => by
    have ih0 := broadsheetref12_Dots.mono_l k
    · intro y0 y1
      unfold broadsheetref12_Dots.l0
      repeat' first
      | (with_reducible exact ih0 _ _)
      | (with_reducible exact broadsheetref12_first.mono _ _ _)
      | (with_reducible exact broadsheetref12_up.mono _ _)
      | (with_reducible exact LeO.refl _)
      | (with_reducible exact LeO.none _)
      | (with_reducible refine LeO.ite ?_ ?_)
      | (with_reducible refine LeO.bind ?_ (fun _ => ?_))
      | exact ih0 _ _
      | exact broadsheetref12_first.mono _ _ _
      | exact broadsheetref12_up.mono _ _
      | exact LeO.none _
      | refine LeO.ite ?_ ?_
      | refine LeO.bind ?_ (fun _ => ?_)
theorem broadsheetref12_Dots.mono : ∀ a0 k, LeO (broadsheetref12_Dots.f k a0) (broadsheetref12_Dots.f (k + 1) a0) := by
  intro a0 k
  have ih0 := broadsheetref12_Dots.mono_l k
  unfold broadsheetref12_Dots.f
  repeat' first
      | (with_reducible exact ih0 _ _)
      | (with_reducible exact broadsheetref12_first.mono _ _ _)
      | (with_reducible exact broadsheetref12_up.mono _ _)
      | (with_reducible exact LeO.refl _)
      | (with_reducible exact LeO.none _)
      | (with_reducible refine LeO.ite ?_ ?_)
      | (with_reducible refine LeO.bind ?_ (fun _ => ?_))
      | exact ih0 _ _
      | exact broadsheetref12_first.mono _ _ _
      | exact broadsheetref12_up.mono _ _
      | exact LeO.none _
      | refine LeO.ite ?_ ?_
      | refine LeO.bind ?_ (fun _ => ?_)
set_option maxHeartbeats 8000000 in
set_option maxRecDepth 100000 in
theorem broadsheetref12_Dots.calls (k : Nat) (a0 : ByteArray) (r : ByteArray) (w : World) (h : broadsheetref12_Dots.f k a0 = some r) :
    Calls Tryd.prog 17 #[.string a0] w fun e w' => e = .returned (.string r) ∧ Drawn0 w w' := by
  have H : (broadsheetref12_Dots.l0 k a0 (⟨#[]⟩ : ByteArray)) = some r := h
  clear h
  have H' := Aside0.mk H
  clear H
  go_enter Tryd.func17, Tryd.ntmps17
  go_wp2
  go_loopg [0, 3] k (fun kq v0 v3 w' => ∃ (x0_1 : ByteArray) (x3_1 : ByteArray), v0 = .string x0_1 ∧ v3 = .string x3_1 ∧ Aside0 (broadsheetref12_Dots.l0 kq x0_1 x3_1 = some r) ∧ Aside0 (kq ≤ k) ∧ Drawn0 w w')
  case atStart => exact ⟨(a0), ((⟨#[]⟩ : ByteArray)), (by first | rfl | (simp; done) | (simp [*]; done) | (simp [xx_ne_nil, xx_eq_nil]; done) | (simp [*, xx_ne_nil, xx_eq_nil]; done)), (by first | rfl | (simp; done) | (simp [*]; done) | (simp [xx_ne_nil, xx_eq_nil]; done) | (simp [*, xx_ne_nil, xx_eq_nil]; done)), H', ⟨Nat.le_refl _⟩, by repeat (first | exact Drawn0.refl _ | apply Drawn0.step)⟩
  case round =>
    clear H'
    try clear c1
    obtain ⟨x0_1, x3_1, rfl, rfl, HA, HK1, ⟨m1, rfl⟩⟩ := hrel
    cases gk with
    | zero => exact absurd HA.out (by simp [broadsheetref12_Dots.l0])
    | succ k1 =>
      have H := HA.out
      clear HA
      simp only [broadsheetref12_Dots.l0] at H
      by_cases c2 : (x0_1.size : Int) > 0
      · rw [if_pos c2] at H
        have c2b0 : decide (0 < (x0_1.size : Int)) = true := decide_eq_true c2
        have c2b1 : decide (0 < x0_1.size) = true := decide_eq_true (by omega)
        clear c2
        replace H := Option.bind_eq_some_iff.mp H
        obtain ⟨t228, A30, H⟩ := H
        replace H : (if t228 = true then (if 3 ≤ (x0_1.size : Int) then (broadsheetref12_Dots.l0 k1 (x0_1.extract 3 x0_1.size) x3_1) else (none)) else ((broadsheetref12_begins.f x0_1 (⟨#[46, 47]⟩ : ByteArray)).bind fun t229 => (if t229 = true then (if 2 ≤ (x0_1.size : Int) then (broadsheetref12_Dots.l0 k1 (x0_1.extract 2 x0_1.size) x3_1) else (none)) else ((broadsheetref12_begins.f x0_1 (⟨#[47, 46, 47]⟩ : ByteArray)).bind fun t230 => (if t230 = true then (if 2 ≤ (x0_1.size : Int) then (broadsheetref12_Dots.l0 k1 (x0_1.extract 2 x0_1.size) x3_1) else (none)) else (if x0_1.toList = ([47, 46] : List UInt8) then (broadsheetref12_Dots.l0 k1 (⟨#[47]⟩ : ByteArray) x3_1) else ((broadsheetref12_begins.f x0_1 (⟨#[47, 46, 46, 47]⟩ : ByteArray)).bind fun t231 => (if t231 = true then (if 3 ≤ (x0_1.size : Int) then ((broadsheetref12_up.f k1 x3_1).bind fun t232 => (broadsheetref12_Dots.l0 k1 (x0_1.extract 3 x0_1.size) t232)) else (none)) else (if x0_1.toList = ([47, 46, 46] : List UInt8) then ((broadsheetref12_up.f k1 x3_1).bind fun t233 => (broadsheetref12_Dots.l0 k1 (⟨#[47]⟩ : ByteArray) t233)) else (if x0_1.toList = ([46] : List UInt8) then (broadsheetref12_Dots.l0 k1 (⟨#[]⟩ : ByteArray) x3_1) else (if x0_1.toList = ([46, 46] : List UInt8) then (broadsheetref12_Dots.l0 k1 (⟨#[]⟩ : ByteArray) x3_1) else (if 1 ≤ (x0_1.size : Int) then ((broadsheetref12_first.f k1 (x0_1.extract 1 x0_1.size) (⟨#[47]⟩ : ByteArray)).bind fun t234 => (if 0 ≤ (wrap64 (1 + t234)) then (if (wrap64 (1 + t234)) ≤ (x0_1.size : Int) then (if x3_1.size + (x0_1.extract 0 ((wrap64 (1 + t234)) : Int).toNat).size ≤ 9223372036854775807 then (broadsheetref12_Dots.l0 k1 (x0_1.extract ((wrap64 (1 + t234)) : Int).toNat x0_1.size) (x3_1 ++ (x0_1.extract 0 ((wrap64 (1 + t234)) : Int).toNat))) else (none)) else (none)) else (none))) else (none))))))))))))) = some r := H
        have A3 := Aside0.mk A30
        clear A30
        by_cases c4 : t228 = true
        · subst c4
          have H1 : (if 3 ≤ (x0_1.size : Int) then (broadsheetref12_Dots.l0 k1 (x0_1.extract 3 x0_1.size) x3_1) else (none)) = some r := by rw [if_pos rfl] at H; exact H
          clear H
          have H := H1
          clear H1
          by_cases c5 : 3 ≤ (x0_1.size : Int)
          · rw [if_pos c5] at H
            have c5b0 := eq_true c5
            have c5b1 : decide (3 ≤ (x0_1.size : Int)) = true := decide_eq_true c5
            clear c5
            have H' := Aside0.mk H
            clear H
            go_wp2_with (first | ((with_reducible refine gate_callee (f := 35) rfl ?_); refine goesL_ (some 22) rfl rfl Tryd.func35 (by kernel_rfl) rfl #[.string x0_1, .string (⟨#[46, 46, 47]⟩ : ByteArray)] rfl (by (try simp only [List.map_toArray, List.map_cons, List.map_nil]); first | done | rfl | (simp only [List.length_drop, List.length_take]; rfl)) ?_; (with_reducible refine (broadsheetref12_begins.calls x0_1 (⟨#[46, 46, 47]⟩ : ByteArray) true _ A3.out).mono ?_); rintro e w' ⟨rfl, ⟨nd, rfl⟩⟩; refine ⟨_, rfl, ?_⟩))
            go_roundg k1
            case measure => have := HK1.out; omega
            case rel => exact ⟨(x0_1.extract 3 x0_1.size), (x3_1), (by first | rfl | (simp; done) | (simp [*]; done) | (simp [xx_ne_nil, xx_eq_nil]; done) | (simp [*, xx_ne_nil, xx_eq_nil]; done)), (by first | rfl | (simp; done) | (simp [*]; done) | (simp [xx_ne_nil, xx_eq_nil]; done) | (simp [*, xx_ne_nil, xx_eq_nil]; done)), H', ⟨by have := HK1.out; omega⟩, by repeat (first | exact Drawn0.refl _ | apply Drawn0.step)⟩
          · rw [if_neg c5] at H
            exact absurd H (by simp)
        · replace c4 := Bool.eq_false_iff.mpr c4
          subst c4
          have H1 : ((broadsheetref12_begins.f x0_1 (⟨#[46, 47]⟩ : ByteArray)).bind fun t229 => (if t229 = true then (if 2 ≤ (x0_1.size : Int) then (broadsheetref12_Dots.l0 k1 (x0_1.extract 2 x0_1.size) x3_1) else (none)) else ((broadsheetref12_begins.f x0_1 (⟨#[47, 46, 47]⟩ : ByteArray)).bind fun t230 => (if t230 = true then (if 2 ≤ (x0_1.size : Int) then (broadsheetref12_Dots.l0 k1 (x0_1.extract 2 x0_1.size) x3_1) else (none)) else (if x0_1.toList = ([47, 46] : List UInt8) then (broadsheetref12_Dots.l0 k1 (⟨#[47]⟩ : ByteArray) x3_1) else ((broadsheetref12_begins.f x0_1 (⟨#[47, 46, 46, 47]⟩ : ByteArray)).bind fun t231 => (if t231 = true then (if 3 ≤ (x0_1.size : Int) then ((broadsheetref12_up.f k1 x3_1).bind fun t232 => (broadsheetref12_Dots.l0 k1 (x0_1.extract 3 x0_1.size) t232)) else (none)) else (if x0_1.toList = ([47, 46, 46] : List UInt8) then ((broadsheetref12_up.f k1 x3_1).bind fun t233 => (broadsheetref12_Dots.l0 k1 (⟨#[47]⟩ : ByteArray) t233)) else (if x0_1.toList = ([46] : List UInt8) then (broadsheetref12_Dots.l0 k1 (⟨#[]⟩ : ByteArray) x3_1) else (if x0_1.toList = ([46, 46] : List UInt8) then (broadsheetref12_Dots.l0 k1 (⟨#[]⟩ : ByteArray) x3_1) else (if 1 ≤ (x0_1.size : Int) then ((broadsheetref12_first.f k1 (x0_1.extract 1 x0_1.size) (⟨#[47]⟩ : ByteArray)).bind fun t234 => (if 0 ≤ (wrap64 (1 + t234)) then (if (wrap64 (1 + t234)) ≤ (x0_1.size : Int) then (if x3_1.size + (x0_1.extract 0 ((wrap64 (1 + t234)) : Int).toNat).size ≤ 9223372036854775807 then (broadsheetref12_Dots.l0 k1 (x0_1.extract ((wrap64 (1 + t234)) : Int).toNat x0_1.size) (x3_1 ++ (x0_1.extract 0 ((wrap64 (1 + t234)) : Int).toNat))) else (none)) else (none)) else (none))) else (none)))))))))))) = some r := by rw [if_neg (show ¬ (false = true) by decide)] at H; exact H
          clear H
          have H := H1
          clear H1
          replace H := Option.bind_eq_some_iff.mp H
          obtain ⟨t229, A60, H⟩ := H
          replace H : (if t229 = true then (if 2 ≤ (x0_1.size : Int) then (broadsheetref12_Dots.l0 k1 (x0_1.extract 2 x0_1.size) x3_1) else (none)) else ((broadsheetref12_begins.f x0_1 (⟨#[47, 46, 47]⟩ : ByteArray)).bind fun t230 => (if t230 = true then (if 2 ≤ (x0_1.size : Int) then (broadsheetref12_Dots.l0 k1 (x0_1.extract 2 x0_1.size) x3_1) else (none)) else (if x0_1.toList = ([47, 46] : List UInt8) then (broadsheetref12_Dots.l0 k1 (⟨#[47]⟩ : ByteArray) x3_1) else ((broadsheetref12_begins.f x0_1 (⟨#[47, 46, 46, 47]⟩ : ByteArray)).bind fun t231 => (if t231 = true then (if 3 ≤ (x0_1.size : Int) then ((broadsheetref12_up.f k1 x3_1).bind fun t232 => (broadsheetref12_Dots.l0 k1 (x0_1.extract 3 x0_1.size) t232)) else (none)) else (if x0_1.toList = ([47, 46, 46] : List UInt8) then ((broadsheetref12_up.f k1 x3_1).bind fun t233 => (broadsheetref12_Dots.l0 k1 (⟨#[47]⟩ : ByteArray) t233)) else (if x0_1.toList = ([46] : List UInt8) then (broadsheetref12_Dots.l0 k1 (⟨#[]⟩ : ByteArray) x3_1) else (if x0_1.toList = ([46, 46] : List UInt8) then (broadsheetref12_Dots.l0 k1 (⟨#[]⟩ : ByteArray) x3_1) else (if 1 ≤ (x0_1.size : Int) then ((broadsheetref12_first.f k1 (x0_1.extract 1 x0_1.size) (⟨#[47]⟩ : ByteArray)).bind fun t234 => (if 0 ≤ (wrap64 (1 + t234)) then (if (wrap64 (1 + t234)) ≤ (x0_1.size : Int) then (if x3_1.size + (x0_1.extract 0 ((wrap64 (1 + t234)) : Int).toNat).size ≤ 9223372036854775807 then (broadsheetref12_Dots.l0 k1 (x0_1.extract ((wrap64 (1 + t234)) : Int).toNat x0_1.size) (x3_1 ++ (x0_1.extract 0 ((wrap64 (1 + t234)) : Int).toNat))) else (none)) else (none)) else (none))) else (none))))))))))) = some r := H
          have A6 := Aside0.mk A60
          clear A60
          by_cases c7 : t229 = true
          · subst c7
            have H1 : (if 2 ≤ (x0_1.size : Int) then (broadsheetref12_Dots.l0 k1 (x0_1.extract 2 x0_1.size) x3_1) else (none)) = some r := by rw [if_pos rfl] at H; exact H
            clear H
            have H := H1
            clear H1
            by_cases c8 : 2 ≤ (x0_1.size : Int)
            · rw [if_pos c8] at H
              have c8b0 := eq_true c8
              have c8b1 : decide (2 ≤ (x0_1.size : Int)) = true := decide_eq_true c8
              clear c8
              have H' := Aside0.mk H
              clear H
              go_wp2_with (first | ((with_reducible refine gate_callee (f := 35) rfl ?_); refine goesL_ (some 22) rfl rfl Tryd.func35 (by kernel_rfl) rfl #[.string x0_1, .string (⟨#[46, 46, 47]⟩ : ByteArray)] rfl (by (try simp only [List.map_toArray, List.map_cons, List.map_nil]); first | done | rfl | (simp only [List.length_drop, List.length_take]; rfl)) ?_; (with_reducible refine (broadsheetref12_begins.calls x0_1 (⟨#[46, 46, 47]⟩ : ByteArray) false _ A3.out).mono ?_); rintro e w' ⟨rfl, ⟨nd, rfl⟩⟩; refine ⟨_, rfl, ?_⟩) | ((with_reducible refine gate_callee (f := 35) rfl ?_); refine goesL_ (some 27) rfl rfl Tryd.func35 (by kernel_rfl) rfl #[.string x0_1, .string (⟨#[46, 47]⟩ : ByteArray)] rfl (by (try simp only [List.map_toArray, List.map_cons, List.map_nil]); first | done | rfl | (simp only [List.length_drop, List.length_take]; rfl)) ?_; (with_reducible refine (broadsheetref12_begins.calls x0_1 (⟨#[46, 47]⟩ : ByteArray) true _ A6.out).mono ?_); rintro e w' ⟨rfl, ⟨nd, rfl⟩⟩; refine ⟨_, rfl, ?_⟩))
              go_roundg k1
              case measure => have := HK1.out; omega
              case rel => exact ⟨(x0_1.extract 2 x0_1.size), (x3_1), (by first | rfl | (simp; done) | (simp [*]; done) | (simp [xx_ne_nil, xx_eq_nil]; done) | (simp [*, xx_ne_nil, xx_eq_nil]; done)), (by first | rfl | (simp; done) | (simp [*]; done) | (simp [xx_ne_nil, xx_eq_nil]; done) | (simp [*, xx_ne_nil, xx_eq_nil]; done)), H', ⟨by have := HK1.out; omega⟩, by repeat (first | exact Drawn0.refl _ | apply Drawn0.step)⟩
            · rw [if_neg c8] at H
              exact absurd H (by simp)
          · replace c7 := Bool.eq_false_iff.mpr c7
            subst c7
            have H1 : ((broadsheetref12_begins.f x0_1 (⟨#[47, 46, 47]⟩ : ByteArray)).bind fun t230 => (if t230 = true then (if 2 ≤ (x0_1.size : Int) then (broadsheetref12_Dots.l0 k1 (x0_1.extract 2 x0_1.size) x3_1) else (none)) else (if x0_1.toList = ([47, 46] : List UInt8) then (broadsheetref12_Dots.l0 k1 (⟨#[47]⟩ : ByteArray) x3_1) else ((broadsheetref12_begins.f x0_1 (⟨#[47, 46, 46, 47]⟩ : ByteArray)).bind fun t231 => (if t231 = true then (if 3 ≤ (x0_1.size : Int) then ((broadsheetref12_up.f k1 x3_1).bind fun t232 => (broadsheetref12_Dots.l0 k1 (x0_1.extract 3 x0_1.size) t232)) else (none)) else (if x0_1.toList = ([47, 46, 46] : List UInt8) then ((broadsheetref12_up.f k1 x3_1).bind fun t233 => (broadsheetref12_Dots.l0 k1 (⟨#[47]⟩ : ByteArray) t233)) else (if x0_1.toList = ([46] : List UInt8) then (broadsheetref12_Dots.l0 k1 (⟨#[]⟩ : ByteArray) x3_1) else (if x0_1.toList = ([46, 46] : List UInt8) then (broadsheetref12_Dots.l0 k1 (⟨#[]⟩ : ByteArray) x3_1) else (if 1 ≤ (x0_1.size : Int) then ((broadsheetref12_first.f k1 (x0_1.extract 1 x0_1.size) (⟨#[47]⟩ : ByteArray)).bind fun t234 => (if 0 ≤ (wrap64 (1 + t234)) then (if (wrap64 (1 + t234)) ≤ (x0_1.size : Int) then (if x3_1.size + (x0_1.extract 0 ((wrap64 (1 + t234)) : Int).toNat).size ≤ 9223372036854775807 then (broadsheetref12_Dots.l0 k1 (x0_1.extract ((wrap64 (1 + t234)) : Int).toNat x0_1.size) (x3_1 ++ (x0_1.extract 0 ((wrap64 (1 + t234)) : Int).toNat))) else (none)) else (none)) else (none))) else (none)))))))))) = some r := by rw [if_neg (show ¬ (false = true) by decide)] at H; exact H
            clear H
            have H := H1
            clear H1
            replace H := Option.bind_eq_some_iff.mp H
            obtain ⟨t230, A90, H⟩ := H
            replace H : (if t230 = true then (if 2 ≤ (x0_1.size : Int) then (broadsheetref12_Dots.l0 k1 (x0_1.extract 2 x0_1.size) x3_1) else (none)) else (if x0_1.toList = ([47, 46] : List UInt8) then (broadsheetref12_Dots.l0 k1 (⟨#[47]⟩ : ByteArray) x3_1) else ((broadsheetref12_begins.f x0_1 (⟨#[47, 46, 46, 47]⟩ : ByteArray)).bind fun t231 => (if t231 = true then (if 3 ≤ (x0_1.size : Int) then ((broadsheetref12_up.f k1 x3_1).bind fun t232 => (broadsheetref12_Dots.l0 k1 (x0_1.extract 3 x0_1.size) t232)) else (none)) else (if x0_1.toList = ([47, 46, 46] : List UInt8) then ((broadsheetref12_up.f k1 x3_1).bind fun t233 => (broadsheetref12_Dots.l0 k1 (⟨#[47]⟩ : ByteArray) t233)) else (if x0_1.toList = ([46] : List UInt8) then (broadsheetref12_Dots.l0 k1 (⟨#[]⟩ : ByteArray) x3_1) else (if x0_1.toList = ([46, 46] : List UInt8) then (broadsheetref12_Dots.l0 k1 (⟨#[]⟩ : ByteArray) x3_1) else (if 1 ≤ (x0_1.size : Int) then ((broadsheetref12_first.f k1 (x0_1.extract 1 x0_1.size) (⟨#[47]⟩ : ByteArray)).bind fun t234 => (if 0 ≤ (wrap64 (1 + t234)) then (if (wrap64 (1 + t234)) ≤ (x0_1.size : Int) then (if x3_1.size + (x0_1.extract 0 ((wrap64 (1 + t234)) : Int).toNat).size ≤ 9223372036854775807 then (broadsheetref12_Dots.l0 k1 (x0_1.extract ((wrap64 (1 + t234)) : Int).toNat x0_1.size) (x3_1 ++ (x0_1.extract 0 ((wrap64 (1 + t234)) : Int).toNat))) else (none)) else (none)) else (none))) else (none))))))))) = some r := H
            have A9 := Aside0.mk A90
            clear A90
            by_cases c10 : t230 = true
            · subst c10
              have H1 : (if 2 ≤ (x0_1.size : Int) then (broadsheetref12_Dots.l0 k1 (x0_1.extract 2 x0_1.size) x3_1) else (none)) = some r := by rw [if_pos rfl] at H; exact H
              clear H
              have H := H1
              clear H1
              by_cases c11 : 2 ≤ (x0_1.size : Int)
              · rw [if_pos c11] at H
                have c11b0 := eq_true c11
                have c11b1 : decide (2 ≤ (x0_1.size : Int)) = true := decide_eq_true c11
                clear c11
                have H' := Aside0.mk H
                clear H
                go_wp2_with (first | ((with_reducible refine gate_callee (f := 35) rfl ?_); refine goesL_ (some 22) rfl rfl Tryd.func35 (by kernel_rfl) rfl #[.string x0_1, .string (⟨#[46, 46, 47]⟩ : ByteArray)] rfl (by (try simp only [List.map_toArray, List.map_cons, List.map_nil]); first | done | rfl | (simp only [List.length_drop, List.length_take]; rfl)) ?_; (with_reducible refine (broadsheetref12_begins.calls x0_1 (⟨#[46, 46, 47]⟩ : ByteArray) false _ A3.out).mono ?_); rintro e w' ⟨rfl, ⟨nd, rfl⟩⟩; refine ⟨_, rfl, ?_⟩) | ((with_reducible refine gate_callee (f := 35) rfl ?_); refine goesL_ (some 27) rfl rfl Tryd.func35 (by kernel_rfl) rfl #[.string x0_1, .string (⟨#[46, 47]⟩ : ByteArray)] rfl (by (try simp only [List.map_toArray, List.map_cons, List.map_nil]); first | done | rfl | (simp only [List.length_drop, List.length_take]; rfl)) ?_; (with_reducible refine (broadsheetref12_begins.calls x0_1 (⟨#[46, 47]⟩ : ByteArray) false _ A6.out).mono ?_); rintro e w' ⟨rfl, ⟨nd, rfl⟩⟩; refine ⟨_, rfl, ?_⟩) | ((with_reducible refine gate_callee (f := 35) rfl ?_); refine goesL_ (some 32) rfl rfl Tryd.func35 (by kernel_rfl) rfl #[.string x0_1, .string (⟨#[47, 46, 47]⟩ : ByteArray)] rfl (by (try simp only [List.map_toArray, List.map_cons, List.map_nil]); first | done | rfl | (simp only [List.length_drop, List.length_take]; rfl)) ?_; (with_reducible refine (broadsheetref12_begins.calls x0_1 (⟨#[47, 46, 47]⟩ : ByteArray) true _ A9.out).mono ?_); rintro e w' ⟨rfl, ⟨nd, rfl⟩⟩; refine ⟨_, rfl, ?_⟩))
                go_roundg k1
                case measure => have := HK1.out; omega
                case rel => exact ⟨(x0_1.extract 2 x0_1.size), (x3_1), (by first | rfl | (simp; done) | (simp [*]; done) | (simp [xx_ne_nil, xx_eq_nil]; done) | (simp [*, xx_ne_nil, xx_eq_nil]; done)), (by first | rfl | (simp; done) | (simp [*]; done) | (simp [xx_ne_nil, xx_eq_nil]; done) | (simp [*, xx_ne_nil, xx_eq_nil]; done)), H', ⟨by have := HK1.out; omega⟩, by repeat (first | exact Drawn0.refl _ | apply Drawn0.step)⟩
              · rw [if_neg c11] at H
                exact absurd H (by simp)
            · replace c10 := Bool.eq_false_iff.mpr c10
              subst c10
              have H1 : (if x0_1.toList = ([47, 46] : List UInt8) then (broadsheetref12_Dots.l0 k1 (⟨#[47]⟩ : ByteArray) x3_1) else ((broadsheetref12_begins.f x0_1 (⟨#[47, 46, 46, 47]⟩ : ByteArray)).bind fun t231 => (if t231 = true then (if 3 ≤ (x0_1.size : Int) then ((broadsheetref12_up.f k1 x3_1).bind fun t232 => (broadsheetref12_Dots.l0 k1 (x0_1.extract 3 x0_1.size) t232)) else (none)) else (if x0_1.toList = ([47, 46, 46] : List UInt8) then ((broadsheetref12_up.f k1 x3_1).bind fun t233 => (broadsheetref12_Dots.l0 k1 (⟨#[47]⟩ : ByteArray) t233)) else (if x0_1.toList = ([46] : List UInt8) then (broadsheetref12_Dots.l0 k1 (⟨#[]⟩ : ByteArray) x3_1) else (if x0_1.toList = ([46, 46] : List UInt8) then (broadsheetref12_Dots.l0 k1 (⟨#[]⟩ : ByteArray) x3_1) else (if 1 ≤ (x0_1.size : Int) then ((broadsheetref12_first.f k1 (x0_1.extract 1 x0_1.size) (⟨#[47]⟩ : ByteArray)).bind fun t234 => (if 0 ≤ (wrap64 (1 + t234)) then (if (wrap64 (1 + t234)) ≤ (x0_1.size : Int) then (if x3_1.size + (x0_1.extract 0 ((wrap64 (1 + t234)) : Int).toNat).size ≤ 9223372036854775807 then (broadsheetref12_Dots.l0 k1 (x0_1.extract ((wrap64 (1 + t234)) : Int).toNat x0_1.size) (x3_1 ++ (x0_1.extract 0 ((wrap64 (1 + t234)) : Int).toNat))) else (none)) else (none)) else (none))) else (none)))))))) = some r := by rw [if_neg (show ¬ (false = true) by decide)] at H; exact H
              clear H
              have H := H1
              clear H1
              by_cases c12 : x0_1.toList = ([47, 46] : List UInt8)
              · rw [if_pos c12] at H
                have c12b0 : (x0_1.toList == ([47, 46] : List UInt8)) = true := beq_iff_eq.mpr c12
                have c12b1 : (x0_1.toList != ([47, 46] : List UInt8)) = false := bne_eq_false_iff_eq.mpr c12
                clear c12
                have H' := Aside0.mk H
                clear H
                go_wp2_with (first | ((with_reducible refine gate_callee (f := 35) rfl ?_); refine goesL_ (some 22) rfl rfl Tryd.func35 (by kernel_rfl) rfl #[.string x0_1, .string (⟨#[46, 46, 47]⟩ : ByteArray)] rfl (by (try simp only [List.map_toArray, List.map_cons, List.map_nil]); first | done | rfl | (simp only [List.length_drop, List.length_take]; rfl)) ?_; (with_reducible refine (broadsheetref12_begins.calls x0_1 (⟨#[46, 46, 47]⟩ : ByteArray) false _ A3.out).mono ?_); rintro e w' ⟨rfl, ⟨nd, rfl⟩⟩; refine ⟨_, rfl, ?_⟩) | ((with_reducible refine gate_callee (f := 35) rfl ?_); refine goesL_ (some 27) rfl rfl Tryd.func35 (by kernel_rfl) rfl #[.string x0_1, .string (⟨#[46, 47]⟩ : ByteArray)] rfl (by (try simp only [List.map_toArray, List.map_cons, List.map_nil]); first | done | rfl | (simp only [List.length_drop, List.length_take]; rfl)) ?_; (with_reducible refine (broadsheetref12_begins.calls x0_1 (⟨#[46, 47]⟩ : ByteArray) false _ A6.out).mono ?_); rintro e w' ⟨rfl, ⟨nd, rfl⟩⟩; refine ⟨_, rfl, ?_⟩) | ((with_reducible refine gate_callee (f := 35) rfl ?_); refine goesL_ (some 32) rfl rfl Tryd.func35 (by kernel_rfl) rfl #[.string x0_1, .string (⟨#[47, 46, 47]⟩ : ByteArray)] rfl (by (try simp only [List.map_toArray, List.map_cons, List.map_nil]); first | done | rfl | (simp only [List.length_drop, List.length_take]; rfl)) ?_; (with_reducible refine (broadsheetref12_begins.calls x0_1 (⟨#[47, 46, 47]⟩ : ByteArray) false _ A9.out).mono ?_); rintro e w' ⟨rfl, ⟨nd, rfl⟩⟩; refine ⟨_, rfl, ?_⟩))
                go_roundg k1
                case measure => have := HK1.out; omega
                case rel => exact ⟨((⟨#[47]⟩ : ByteArray)), (x3_1), (by first | rfl | (simp; done) | (simp [*]; done) | (simp [xx_ne_nil, xx_eq_nil]; done) | (simp [*, xx_ne_nil, xx_eq_nil]; done)), (by first | rfl | (simp; done) | (simp [*]; done) | (simp [xx_ne_nil, xx_eq_nil]; done) | (simp [*, xx_ne_nil, xx_eq_nil]; done)), H', ⟨by have := HK1.out; omega⟩, by repeat (first | exact Drawn0.refl _ | apply Drawn0.step)⟩
              · rw [if_neg c12] at H
                have c12b0 : (x0_1.toList == ([47, 46] : List UInt8)) = false := beq_eq_false_iff_ne.mpr c12
                have c12b1 : (x0_1.toList != ([47, 46] : List UInt8)) = true := bne_iff_ne.mpr c12
                replace H := Option.bind_eq_some_iff.mp H
                obtain ⟨t231, A130, H⟩ := H
                replace H : (if t231 = true then (if 3 ≤ (x0_1.size : Int) then ((broadsheetref12_up.f k1 x3_1).bind fun t232 => (broadsheetref12_Dots.l0 k1 (x0_1.extract 3 x0_1.size) t232)) else (none)) else (if x0_1.toList = ([47, 46, 46] : List UInt8) then ((broadsheetref12_up.f k1 x3_1).bind fun t233 => (broadsheetref12_Dots.l0 k1 (⟨#[47]⟩ : ByteArray) t233)) else (if x0_1.toList = ([46] : List UInt8) then (broadsheetref12_Dots.l0 k1 (⟨#[]⟩ : ByteArray) x3_1) else (if x0_1.toList = ([46, 46] : List UInt8) then (broadsheetref12_Dots.l0 k1 (⟨#[]⟩ : ByteArray) x3_1) else (if 1 ≤ (x0_1.size : Int) then ((broadsheetref12_first.f k1 (x0_1.extract 1 x0_1.size) (⟨#[47]⟩ : ByteArray)).bind fun t234 => (if 0 ≤ (wrap64 (1 + t234)) then (if (wrap64 (1 + t234)) ≤ (x0_1.size : Int) then (if x3_1.size + (x0_1.extract 0 ((wrap64 (1 + t234)) : Int).toNat).size ≤ 9223372036854775807 then (broadsheetref12_Dots.l0 k1 (x0_1.extract ((wrap64 (1 + t234)) : Int).toNat x0_1.size) (x3_1 ++ (x0_1.extract 0 ((wrap64 (1 + t234)) : Int).toNat))) else (none)) else (none)) else (none))) else (none)))))) = some r := H
                have A13 := Aside0.mk A130
                clear A130
                by_cases c14 : t231 = true
                · subst c14
                  have H1 : (if 3 ≤ (x0_1.size : Int) then ((broadsheetref12_up.f k1 x3_1).bind fun t232 => (broadsheetref12_Dots.l0 k1 (x0_1.extract 3 x0_1.size) t232)) else (none)) = some r := by rw [if_pos rfl] at H; exact H
                  clear H
                  have H := H1
                  clear H1
                  by_cases c15 : 3 ≤ (x0_1.size : Int)
                  · rw [if_pos c15] at H
                    have c15b0 := eq_true c15
                    have c15b1 : decide (3 ≤ (x0_1.size : Int)) = true := decide_eq_true c15
                    clear c15
                    replace H := Option.bind_eq_some_iff.mp H
                    obtain ⟨t232, A160, H⟩ := H
                    replace H : (broadsheetref12_Dots.l0 k1 (x0_1.extract 3 x0_1.size) t232) = some r := H
                    have A16 := Aside0.mk A160
                    clear A160
                    have H' := Aside0.mk H
                    clear H
                    go_wp2_with (first | ((with_reducible refine gate_callee (f := 35) rfl ?_); refine goesL_ (some 22) rfl rfl Tryd.func35 (by kernel_rfl) rfl #[.string x0_1, .string (⟨#[46, 46, 47]⟩ : ByteArray)] rfl (by (try simp only [List.map_toArray, List.map_cons, List.map_nil]); first | done | rfl | (simp only [List.length_drop, List.length_take]; rfl)) ?_; (with_reducible refine (broadsheetref12_begins.calls x0_1 (⟨#[46, 46, 47]⟩ : ByteArray) false _ A3.out).mono ?_); rintro e w' ⟨rfl, ⟨nd, rfl⟩⟩; refine ⟨_, rfl, ?_⟩) | ((with_reducible refine gate_callee (f := 35) rfl ?_); refine goesL_ (some 27) rfl rfl Tryd.func35 (by kernel_rfl) rfl #[.string x0_1, .string (⟨#[46, 47]⟩ : ByteArray)] rfl (by (try simp only [List.map_toArray, List.map_cons, List.map_nil]); first | done | rfl | (simp only [List.length_drop, List.length_take]; rfl)) ?_; (with_reducible refine (broadsheetref12_begins.calls x0_1 (⟨#[46, 47]⟩ : ByteArray) false _ A6.out).mono ?_); rintro e w' ⟨rfl, ⟨nd, rfl⟩⟩; refine ⟨_, rfl, ?_⟩) | ((with_reducible refine gate_callee (f := 35) rfl ?_); refine goesL_ (some 32) rfl rfl Tryd.func35 (by kernel_rfl) rfl #[.string x0_1, .string (⟨#[47, 46, 47]⟩ : ByteArray)] rfl (by (try simp only [List.map_toArray, List.map_cons, List.map_nil]); first | done | rfl | (simp only [List.length_drop, List.length_take]; rfl)) ?_; (with_reducible refine (broadsheetref12_begins.calls x0_1 (⟨#[47, 46, 47]⟩ : ByteArray) false _ A9.out).mono ?_); rintro e w' ⟨rfl, ⟨nd, rfl⟩⟩; refine ⟨_, rfl, ?_⟩) | ((with_reducible refine gate_callee (f := 35) rfl ?_); refine goesL_ (some 40) rfl rfl Tryd.func35 (by kernel_rfl) rfl #[.string x0_1, .string (⟨#[47, 46, 46, 47]⟩ : ByteArray)] rfl (by (try simp only [List.map_toArray, List.map_cons, List.map_nil]); first | done | rfl | (simp only [List.length_drop, List.length_take]; rfl)) ?_; (with_reducible refine (broadsheetref12_begins.calls x0_1 (⟨#[47, 46, 46, 47]⟩ : ByteArray) true _ A13.out).mono ?_); rintro e w' ⟨rfl, ⟨nd, rfl⟩⟩; refine ⟨_, rfl, ?_⟩) | ((with_reducible refine gate_callee (f := 36) rfl ?_); refine goesL_ (some 44) rfl rfl Tryd.func36 (by kernel_rfl) rfl #[.string x3_1] rfl (by (try simp only [List.map_toArray, List.map_cons, List.map_nil]); first | done | rfl | (simp only [List.length_drop, List.length_take]; rfl)) ?_; (with_reducible refine (broadsheetref12_up.calls k1 x3_1 t232 _ A16.out).mono ?_); rintro e w' ⟨rfl, ⟨nd, rfl⟩⟩; refine ⟨_, rfl, ?_⟩))
                    go_roundg k1
                    case measure => have := HK1.out; omega
                    case rel => exact ⟨(x0_1.extract 3 x0_1.size), (t232), (by first | rfl | (simp; done) | (simp [*]; done) | (simp [xx_ne_nil, xx_eq_nil]; done) | (simp [*, xx_ne_nil, xx_eq_nil]; done)), (by first | rfl | (simp; done) | (simp [*]; done) | (simp [xx_ne_nil, xx_eq_nil]; done) | (simp [*, xx_ne_nil, xx_eq_nil]; done)), H', ⟨by have := HK1.out; omega⟩, by repeat (first | exact Drawn0.refl _ | apply Drawn0.step)⟩
                  · rw [if_neg c15] at H
                    exact absurd H (by simp)
                · replace c14 := Bool.eq_false_iff.mpr c14
                  subst c14
                  have H1 : (if x0_1.toList = ([47, 46, 46] : List UInt8) then ((broadsheetref12_up.f k1 x3_1).bind fun t233 => (broadsheetref12_Dots.l0 k1 (⟨#[47]⟩ : ByteArray) t233)) else (if x0_1.toList = ([46] : List UInt8) then (broadsheetref12_Dots.l0 k1 (⟨#[]⟩ : ByteArray) x3_1) else (if x0_1.toList = ([46, 46] : List UInt8) then (broadsheetref12_Dots.l0 k1 (⟨#[]⟩ : ByteArray) x3_1) else (if 1 ≤ (x0_1.size : Int) then ((broadsheetref12_first.f k1 (x0_1.extract 1 x0_1.size) (⟨#[47]⟩ : ByteArray)).bind fun t234 => (if 0 ≤ (wrap64 (1 + t234)) then (if (wrap64 (1 + t234)) ≤ (x0_1.size : Int) then (if x3_1.size + (x0_1.extract 0 ((wrap64 (1 + t234)) : Int).toNat).size ≤ 9223372036854775807 then (broadsheetref12_Dots.l0 k1 (x0_1.extract ((wrap64 (1 + t234)) : Int).toNat x0_1.size) (x3_1 ++ (x0_1.extract 0 ((wrap64 (1 + t234)) : Int).toNat))) else (none)) else (none)) else (none))) else (none))))) = some r := by rw [if_neg (show ¬ (false = true) by decide)] at H; exact H
                  clear H
                  have H := H1
                  clear H1
                  by_cases c17 : x0_1.toList = ([47, 46, 46] : List UInt8)
                  · rw [if_pos c17] at H
                    have c17b0 : (x0_1.toList == ([47, 46, 46] : List UInt8)) = true := beq_iff_eq.mpr c17
                    have c17b1 : (x0_1.toList != ([47, 46, 46] : List UInt8)) = false := bne_eq_false_iff_eq.mpr c17
                    clear c17
                    replace H := Option.bind_eq_some_iff.mp H
                    obtain ⟨t233, A180, H⟩ := H
                    replace H : (broadsheetref12_Dots.l0 k1 (⟨#[47]⟩ : ByteArray) t233) = some r := H
                    have A18 := Aside0.mk A180
                    clear A180
                    have H' := Aside0.mk H
                    clear H
                    go_wp2_with (first | ((with_reducible refine gate_callee (f := 35) rfl ?_); refine goesL_ (some 22) rfl rfl Tryd.func35 (by kernel_rfl) rfl #[.string x0_1, .string (⟨#[46, 46, 47]⟩ : ByteArray)] rfl (by (try simp only [List.map_toArray, List.map_cons, List.map_nil]); first | done | rfl | (simp only [List.length_drop, List.length_take]; rfl)) ?_; (with_reducible refine (broadsheetref12_begins.calls x0_1 (⟨#[46, 46, 47]⟩ : ByteArray) false _ A3.out).mono ?_); rintro e w' ⟨rfl, ⟨nd, rfl⟩⟩; refine ⟨_, rfl, ?_⟩) | ((with_reducible refine gate_callee (f := 35) rfl ?_); refine goesL_ (some 27) rfl rfl Tryd.func35 (by kernel_rfl) rfl #[.string x0_1, .string (⟨#[46, 47]⟩ : ByteArray)] rfl (by (try simp only [List.map_toArray, List.map_cons, List.map_nil]); first | done | rfl | (simp only [List.length_drop, List.length_take]; rfl)) ?_; (with_reducible refine (broadsheetref12_begins.calls x0_1 (⟨#[46, 47]⟩ : ByteArray) false _ A6.out).mono ?_); rintro e w' ⟨rfl, ⟨nd, rfl⟩⟩; refine ⟨_, rfl, ?_⟩) | ((with_reducible refine gate_callee (f := 35) rfl ?_); refine goesL_ (some 32) rfl rfl Tryd.func35 (by kernel_rfl) rfl #[.string x0_1, .string (⟨#[47, 46, 47]⟩ : ByteArray)] rfl (by (try simp only [List.map_toArray, List.map_cons, List.map_nil]); first | done | rfl | (simp only [List.length_drop, List.length_take]; rfl)) ?_; (with_reducible refine (broadsheetref12_begins.calls x0_1 (⟨#[47, 46, 47]⟩ : ByteArray) false _ A9.out).mono ?_); rintro e w' ⟨rfl, ⟨nd, rfl⟩⟩; refine ⟨_, rfl, ?_⟩) | ((with_reducible refine gate_callee (f := 35) rfl ?_); refine goesL_ (some 40) rfl rfl Tryd.func35 (by kernel_rfl) rfl #[.string x0_1, .string (⟨#[47, 46, 46, 47]⟩ : ByteArray)] rfl (by (try simp only [List.map_toArray, List.map_cons, List.map_nil]); first | done | rfl | (simp only [List.length_drop, List.length_take]; rfl)) ?_; (with_reducible refine (broadsheetref12_begins.calls x0_1 (⟨#[47, 46, 46, 47]⟩ : ByteArray) false _ A13.out).mono ?_); rintro e w' ⟨rfl, ⟨nd, rfl⟩⟩; refine ⟨_, rfl, ?_⟩) | ((with_reducible refine gate_callee (f := 36) rfl ?_); refine goesL_ (some 49) rfl rfl Tryd.func36 (by kernel_rfl) rfl #[.string x3_1] rfl (by (try simp only [List.map_toArray, List.map_cons, List.map_nil]); first | done | rfl | (simp only [List.length_drop, List.length_take]; rfl)) ?_; (with_reducible refine (broadsheetref12_up.calls k1 x3_1 t233 _ A18.out).mono ?_); rintro e w' ⟨rfl, ⟨nd, rfl⟩⟩; refine ⟨_, rfl, ?_⟩))
                    go_roundg k1
                    case measure => have := HK1.out; omega
                    case rel => exact ⟨((⟨#[47]⟩ : ByteArray)), (t233), (by first | rfl | (simp; done) | (simp [*]; done) | (simp [xx_ne_nil, xx_eq_nil]; done) | (simp [*, xx_ne_nil, xx_eq_nil]; done)), (by first | rfl | (simp; done) | (simp [*]; done) | (simp [xx_ne_nil, xx_eq_nil]; done) | (simp [*, xx_ne_nil, xx_eq_nil]; done)), H', ⟨by have := HK1.out; omega⟩, by repeat (first | exact Drawn0.refl _ | apply Drawn0.step)⟩
                  · rw [if_neg c17] at H
                    have c17b0 : (x0_1.toList == ([47, 46, 46] : List UInt8)) = false := beq_eq_false_iff_ne.mpr c17
                    have c17b1 : (x0_1.toList != ([47, 46, 46] : List UInt8)) = true := bne_iff_ne.mpr c17
                    by_cases c19 : x0_1.toList = ([46] : List UInt8)
                    · rw [if_pos c19] at H
                      have c19b0 : (x0_1.toList == ([46] : List UInt8)) = true := beq_iff_eq.mpr c19
                      have c19b1 : (x0_1.toList != ([46] : List UInt8)) = false := bne_eq_false_iff_eq.mpr c19
                      clear c19
                      have H' := Aside0.mk H
                      clear H
                      go_wp2_with (first | ((with_reducible refine gate_callee (f := 35) rfl ?_); refine goesL_ (some 22) rfl rfl Tryd.func35 (by kernel_rfl) rfl #[.string x0_1, .string (⟨#[46, 46, 47]⟩ : ByteArray)] rfl (by (try simp only [List.map_toArray, List.map_cons, List.map_nil]); first | done | rfl | (simp only [List.length_drop, List.length_take]; rfl)) ?_; (with_reducible refine (broadsheetref12_begins.calls x0_1 (⟨#[46, 46, 47]⟩ : ByteArray) false _ A3.out).mono ?_); rintro e w' ⟨rfl, ⟨nd, rfl⟩⟩; refine ⟨_, rfl, ?_⟩) | ((with_reducible refine gate_callee (f := 35) rfl ?_); refine goesL_ (some 27) rfl rfl Tryd.func35 (by kernel_rfl) rfl #[.string x0_1, .string (⟨#[46, 47]⟩ : ByteArray)] rfl (by (try simp only [List.map_toArray, List.map_cons, List.map_nil]); first | done | rfl | (simp only [List.length_drop, List.length_take]; rfl)) ?_; (with_reducible refine (broadsheetref12_begins.calls x0_1 (⟨#[46, 47]⟩ : ByteArray) false _ A6.out).mono ?_); rintro e w' ⟨rfl, ⟨nd, rfl⟩⟩; refine ⟨_, rfl, ?_⟩) | ((with_reducible refine gate_callee (f := 35) rfl ?_); refine goesL_ (some 32) rfl rfl Tryd.func35 (by kernel_rfl) rfl #[.string x0_1, .string (⟨#[47, 46, 47]⟩ : ByteArray)] rfl (by (try simp only [List.map_toArray, List.map_cons, List.map_nil]); first | done | rfl | (simp only [List.length_drop, List.length_take]; rfl)) ?_; (with_reducible refine (broadsheetref12_begins.calls x0_1 (⟨#[47, 46, 47]⟩ : ByteArray) false _ A9.out).mono ?_); rintro e w' ⟨rfl, ⟨nd, rfl⟩⟩; refine ⟨_, rfl, ?_⟩) | ((with_reducible refine gate_callee (f := 35) rfl ?_); refine goesL_ (some 40) rfl rfl Tryd.func35 (by kernel_rfl) rfl #[.string x0_1, .string (⟨#[47, 46, 46, 47]⟩ : ByteArray)] rfl (by (try simp only [List.map_toArray, List.map_cons, List.map_nil]); first | done | rfl | (simp only [List.length_drop, List.length_take]; rfl)) ?_; (with_reducible refine (broadsheetref12_begins.calls x0_1 (⟨#[47, 46, 46, 47]⟩ : ByteArray) false _ A13.out).mono ?_); rintro e w' ⟨rfl, ⟨nd, rfl⟩⟩; refine ⟨_, rfl, ?_⟩))
                      go_roundg k1
                      case measure => have := HK1.out; omega
                      case rel => exact ⟨((⟨#[]⟩ : ByteArray)), (x3_1), (by first | rfl | (simp; done) | (simp [*]; done) | (simp [xx_ne_nil, xx_eq_nil]; done) | (simp [*, xx_ne_nil, xx_eq_nil]; done)), (by first | rfl | (simp; done) | (simp [*]; done) | (simp [xx_ne_nil, xx_eq_nil]; done) | (simp [*, xx_ne_nil, xx_eq_nil]; done)), H', ⟨by have := HK1.out; omega⟩, by repeat (first | exact Drawn0.refl _ | apply Drawn0.step)⟩
                    · rw [if_neg c19] at H
                      have c19b0 : (x0_1.toList == ([46] : List UInt8)) = false := beq_eq_false_iff_ne.mpr c19
                      have c19b1 : (x0_1.toList != ([46] : List UInt8)) = true := bne_iff_ne.mpr c19
                      by_cases c20 : x0_1.toList = ([46, 46] : List UInt8)
                      · rw [if_pos c20] at H
                        have c20b0 : (x0_1.toList == ([46, 46] : List UInt8)) = true := beq_iff_eq.mpr c20
                        have c20b1 : (x0_1.toList != ([46, 46] : List UInt8)) = false := bne_eq_false_iff_eq.mpr c20
                        clear c20
                        have H' := Aside0.mk H
                        clear H
                        go_wp2_with (first | ((with_reducible refine gate_callee (f := 35) rfl ?_); refine goesL_ (some 22) rfl rfl Tryd.func35 (by kernel_rfl) rfl #[.string x0_1, .string (⟨#[46, 46, 47]⟩ : ByteArray)] rfl (by (try simp only [List.map_toArray, List.map_cons, List.map_nil]); first | done | rfl | (simp only [List.length_drop, List.length_take]; rfl)) ?_; (with_reducible refine (broadsheetref12_begins.calls x0_1 (⟨#[46, 46, 47]⟩ : ByteArray) false _ A3.out).mono ?_); rintro e w' ⟨rfl, ⟨nd, rfl⟩⟩; refine ⟨_, rfl, ?_⟩) | ((with_reducible refine gate_callee (f := 35) rfl ?_); refine goesL_ (some 27) rfl rfl Tryd.func35 (by kernel_rfl) rfl #[.string x0_1, .string (⟨#[46, 47]⟩ : ByteArray)] rfl (by (try simp only [List.map_toArray, List.map_cons, List.map_nil]); first | done | rfl | (simp only [List.length_drop, List.length_take]; rfl)) ?_; (with_reducible refine (broadsheetref12_begins.calls x0_1 (⟨#[46, 47]⟩ : ByteArray) false _ A6.out).mono ?_); rintro e w' ⟨rfl, ⟨nd, rfl⟩⟩; refine ⟨_, rfl, ?_⟩) | ((with_reducible refine gate_callee (f := 35) rfl ?_); refine goesL_ (some 32) rfl rfl Tryd.func35 (by kernel_rfl) rfl #[.string x0_1, .string (⟨#[47, 46, 47]⟩ : ByteArray)] rfl (by (try simp only [List.map_toArray, List.map_cons, List.map_nil]); first | done | rfl | (simp only [List.length_drop, List.length_take]; rfl)) ?_; (with_reducible refine (broadsheetref12_begins.calls x0_1 (⟨#[47, 46, 47]⟩ : ByteArray) false _ A9.out).mono ?_); rintro e w' ⟨rfl, ⟨nd, rfl⟩⟩; refine ⟨_, rfl, ?_⟩) | ((with_reducible refine gate_callee (f := 35) rfl ?_); refine goesL_ (some 40) rfl rfl Tryd.func35 (by kernel_rfl) rfl #[.string x0_1, .string (⟨#[47, 46, 46, 47]⟩ : ByteArray)] rfl (by (try simp only [List.map_toArray, List.map_cons, List.map_nil]); first | done | rfl | (simp only [List.length_drop, List.length_take]; rfl)) ?_; (with_reducible refine (broadsheetref12_begins.calls x0_1 (⟨#[47, 46, 46, 47]⟩ : ByteArray) false _ A13.out).mono ?_); rintro e w' ⟨rfl, ⟨nd, rfl⟩⟩; refine ⟨_, rfl, ?_⟩))
                        go_roundg k1
                        case measure => have := HK1.out; omega
                        case rel => exact ⟨((⟨#[]⟩ : ByteArray)), (x3_1), (by first | rfl | (simp; done) | (simp [*]; done) | (simp [xx_ne_nil, xx_eq_nil]; done) | (simp [*, xx_ne_nil, xx_eq_nil]; done)), (by first | rfl | (simp; done) | (simp [*]; done) | (simp [xx_ne_nil, xx_eq_nil]; done) | (simp [*, xx_ne_nil, xx_eq_nil]; done)), H', ⟨by have := HK1.out; omega⟩, by repeat (first | exact Drawn0.refl _ | apply Drawn0.step)⟩
                      · rw [if_neg c20] at H
                        have c20b0 : (x0_1.toList == ([46, 46] : List UInt8)) = false := beq_eq_false_iff_ne.mpr c20
                        have c20b1 : (x0_1.toList != ([46, 46] : List UInt8)) = true := bne_iff_ne.mpr c20
                        by_cases c21 : 1 ≤ (x0_1.size : Int)
                        · rw [if_pos c21] at H
                          have c21b0 := eq_true c21
                          have c21b1 : decide (1 ≤ (x0_1.size : Int)) = true := decide_eq_true c21
                          clear c21
                          replace H := Option.bind_eq_some_iff.mp H
                          obtain ⟨t234, A220, H⟩ := H
                          replace H : (if 0 ≤ (wrap64 (1 + t234)) then (if (wrap64 (1 + t234)) ≤ (x0_1.size : Int) then (if x3_1.size + (x0_1.extract 0 ((wrap64 (1 + t234)) : Int).toNat).size ≤ 9223372036854775807 then (broadsheetref12_Dots.l0 k1 (x0_1.extract ((wrap64 (1 + t234)) : Int).toNat x0_1.size) (x3_1 ++ (x0_1.extract 0 ((wrap64 (1 + t234)) : Int).toNat))) else (none)) else (none)) else (none)) = some r := H
                          have A22 := Aside0.mk A220
                          clear A220
                          obtain ⟨ji23, hji23⟩ : ∃ j_ : Int, (wrap64 (1 + t234)) = j_ := ⟨_, rfl⟩
                          replace H : (if 0 ≤ (ji23) then (if (ji23) ≤ (x0_1.size : Int) then (if x3_1.size + (x0_1.extract 0 ((ji23) : Int).toNat).size ≤ 9223372036854775807 then (broadsheetref12_Dots.l0 k1 (x0_1.extract ((ji23) : Int).toNat x0_1.size) (x3_1 ++ (x0_1.extract 0 ((ji23) : Int).toNat))) else (none)) else (none)) else (none)) = some r := by first | (rw [hji23] at H; exact H) | (simp only [hji23] at H ⊢; exact H)
                          (try rw [hji23] at A3)
                          (try rw [hji23] at A6)
                          (try rw [hji23] at A9)
                          (try rw [hji23] at A13)
                          (try rw [hji23] at A22)
                          have hji23w : (IntKind.i64.wrap (1 + t234)) = ji23 := (i64_w _).trans hji23
                          by_cases c24 : 0 ≤ (ji23)
                          · rw [if_pos c24] at H
                            have c24b0 := eq_true c24
                            have c24b1 : decide (0 ≤ (ji23)) = true := decide_eq_true c24
                            clear c24
                            by_cases c25 : (ji23) ≤ (x0_1.size : Int)
                            · rw [if_pos c25] at H
                              have c25b0 := eq_true c25
                              have c25b1 : decide ((ji23) ≤ (x0_1.size : Int)) = true := decide_eq_true c25
                              clear c25
                              by_cases c26 : x3_1.size + (x0_1.extract 0 ((ji23) : Int).toNat).size ≤ 9223372036854775807
                              · rw [if_pos c26] at H
                                have c26b0 := eq_true c26
                                have c26b1 : decide (x3_1.size + (x0_1.extract 0 ((ji23) : Int).toNat).size ≤ 9223372036854775807) = true := decide_eq_true c26
                                try have c26b2 : (9223372036854775807 < x3_1.size + (x0_1.extract 0 ((ji23) : Int).toNat).size) = False := eq_false (Nat.not_lt.2 c26)
                                have c27b0 := eq_true (of_decide_eq_true (by first | (with_reducible assumption) | assumption) : 0 ≤ (ji23))
                                have c28b0 := eq_true (of_decide_eq_true (by first | (with_reducible assumption) | assumption) : (ji23) ≤ (x0_1.size : Int))
                                have H' := Aside0.mk H
                                clear H
                                go_wp2_with (first | ((with_reducible refine gate_callee (f := 35) rfl ?_); refine goesL_ (some 22) rfl rfl Tryd.func35 (by kernel_rfl) rfl #[.string x0_1, .string (⟨#[46, 46, 47]⟩ : ByteArray)] rfl (by (try simp only [List.map_toArray, List.map_cons, List.map_nil]); first | done | rfl | (simp only [List.length_drop, List.length_take]; rfl)) ?_; (with_reducible refine (broadsheetref12_begins.calls x0_1 (⟨#[46, 46, 47]⟩ : ByteArray) false _ A3.out).mono ?_); rintro e w' ⟨rfl, ⟨nd, rfl⟩⟩; refine ⟨_, rfl, ?_⟩) | ((with_reducible refine gate_callee (f := 35) rfl ?_); refine goesL_ (some 27) rfl rfl Tryd.func35 (by kernel_rfl) rfl #[.string x0_1, .string (⟨#[46, 47]⟩ : ByteArray)] rfl (by (try simp only [List.map_toArray, List.map_cons, List.map_nil]); first | done | rfl | (simp only [List.length_drop, List.length_take]; rfl)) ?_; (with_reducible refine (broadsheetref12_begins.calls x0_1 (⟨#[46, 47]⟩ : ByteArray) false _ A6.out).mono ?_); rintro e w' ⟨rfl, ⟨nd, rfl⟩⟩; refine ⟨_, rfl, ?_⟩) | ((with_reducible refine gate_callee (f := 35) rfl ?_); refine goesL_ (some 32) rfl rfl Tryd.func35 (by kernel_rfl) rfl #[.string x0_1, .string (⟨#[47, 46, 47]⟩ : ByteArray)] rfl (by (try simp only [List.map_toArray, List.map_cons, List.map_nil]); first | done | rfl | (simp only [List.length_drop, List.length_take]; rfl)) ?_; (with_reducible refine (broadsheetref12_begins.calls x0_1 (⟨#[47, 46, 47]⟩ : ByteArray) false _ A9.out).mono ?_); rintro e w' ⟨rfl, ⟨nd, rfl⟩⟩; refine ⟨_, rfl, ?_⟩) | ((with_reducible refine gate_callee (f := 35) rfl ?_); refine goesL_ (some 40) rfl rfl Tryd.func35 (by kernel_rfl) rfl #[.string x0_1, .string (⟨#[47, 46, 46, 47]⟩ : ByteArray)] rfl (by (try simp only [List.map_toArray, List.map_cons, List.map_nil]); first | done | rfl | (simp only [List.length_drop, List.length_take]; rfl)) ?_; (with_reducible refine (broadsheetref12_begins.calls x0_1 (⟨#[47, 46, 46, 47]⟩ : ByteArray) false _ A13.out).mono ?_); rintro e w' ⟨rfl, ⟨nd, rfl⟩⟩; refine ⟨_, rfl, ?_⟩) | ((with_reducible refine gate_callee (f := 37) rfl ?_); refine goesL_ (some 10) rfl rfl Tryd.func37 (by kernel_rfl) rfl #[.string (x0_1.extract 1 x0_1.size), .string (⟨#[47]⟩ : ByteArray)] rfl (by (try simp only [List.map_toArray, List.map_cons, List.map_nil]); first | done | rfl | (simp only [List.length_drop, List.length_take]; rfl)) ?_; (with_reducible refine (broadsheetref12_first.calls k1 (x0_1.extract 1 x0_1.size) (⟨#[47]⟩ : ByteArray) t234 _ A22.out).mono ?_); rintro e w' ⟨rfl, ⟨nd, rfl⟩⟩; refine ⟨_, rfl, ?_⟩))
                                go_roundg k1
                                case measure => have := HK1.out; omega
                                case rel => exact ⟨(x0_1.extract ((ji23) : Int).toNat x0_1.size), (x3_1 ++ (x0_1.extract 0 ((ji23) : Int).toNat)), (by first | rfl | (simp; done) | (simp only [← hji23] <;> (first | rfl | simp)) | (simp [*]; done) | (simp [xx_ne_nil, xx_eq_nil]; done) | (simp [*, xx_ne_nil, xx_eq_nil]; done)), (by first | rfl | (simp; done) | (simp only [← hji23] <;> (first | rfl | simp)) | (simp [*]; done) | (simp [xx_ne_nil, xx_eq_nil]; done) | (simp [*, xx_ne_nil, xx_eq_nil]; done)), H', ⟨by have := HK1.out; omega⟩, by repeat (first | exact Drawn0.refl _ | apply Drawn0.step)⟩
                              · rw [if_neg c26] at H
                                exact absurd H (by simp)
                            · rw [if_neg c25] at H
                              exact absurd H (by simp)
                          · rw [if_neg c24] at H
                            exact absurd H (by simp)
                        · rw [if_neg c21] at H
                          exact absurd H (by simp)
      · rw [if_neg c2] at H
        have c2b0 : decide (0 < (x0_1.size : Int)) = false := decide_eq_false c2
        have c2b1 : decide (0 < x0_1.size) = false := decide_eq_false (by omega)
        clear c2
        obtain rfl := Option.some.inj H
        go_wp2
        go_ret
        exact ⟨by first | rfl | (simp; done) | (simp [*]; done) | (simp [xx_ne_nil, xx_eq_nil]; done) | (simp [*, xx_ne_nil, xx_eq_nil]; done), by repeat (first | exact Drawn0.refl _ | apply Drawn0.step)⟩

-- NOT PRINTED: function 19 (broadsheetref12_Resolve)

-- NOT PRINTED: function 5 (broadsheetlaw12_LocatorTexts)

/-! ### broadsheetlaw12_short: function 13 -/
end Go.Proofs.YtldancekpigkaaaDoor.Pl
