-- Printed by xprint.py, this session's program over the kit's printer, out of the translation. Not trusted: Lean checks it.
import Derived.Test.YtldancekpigkaaaDoorPc0
import Derived.Test.YtldancekpigkaaaDoorXAwake
namespace Go.Proofs.YtldancekpigkaaaDoor.Pc
open Go.RowKit Go.Proofs.YtldancekpigkaaaDoorW.PrintWords Go.Proofs.YtldancekpigkaaaDoorW.PrintLast Go.Proofs.YtldancekpigkaaaDoorW.PrintMore
attribute [local go_sem] max2_int min2_int max_two min_two max_three min_three max_four min_four   -- for this text's walks alone
open Go.Proofs.YtldancekpigkaaaDoor.X Go.Proofs.YtldancekpigkaaaDoor.Pl
set_option linter.unusedVariables false
set_option linter.unusedSimpArgs false

-- EXTERN: function 11 (locator_Parse)

-- EXTERN: function 14 (locator_Print)

-- EXTERN: function 16 (locator_Dots)

-- EXTERN: function 18 (locator_Resolve)

-- EXTERN: function 10 (broadsheetlaw12_awake)

/-! ### broadsheetlaw12_LocatorDots: function 7 -/
def broadsheetlaw12_LocatorDots.l0 : Nat → ByteArray → Bool → ByteArray → Int → Option (Bool)
  | 0, _, _, _, _ => none
  | k + 1, x0, x3, x4, x5 => if (wrap64 (x5 + 1)) < (x4.size : Int) then (if 0 ≤ x5 then (if x5 < (x4.size : Int) then (if (bt x4 x5) = 47 then (if 0 ≤ (wrap64 (x5 + 1)) then (if (bt x4 (wrap64 (x5 + 1))) = 46 then (if (wrap64 (x5 + 2)) = (x4.size : Int) then (some false) else (if 0 ≤ (wrap64 (x5 + 2)) then (if (wrap64 (x5 + 2)) < (x4.size : Int) then (if (bt x4 (wrap64 (x5 + 2))) = 47 then (some false) else (if (bt x4 (wrap64 (x5 + 2))) = 46 then (if (wrap64 (x5 + 3)) = (x4.size : Int) then (some false) else (if 0 ≤ (wrap64 (x5 + 3)) then (if (wrap64 (x5 + 3)) < (x4.size : Int) then (if (bt x4 (wrap64 (x5 + 3))) = 47 then (some false) else (broadsheetlaw12_LocatorDots.l0 k x0 x3 x4 (wrap64 (x5 + 1)))) else (none)) else (none))) else (broadsheetlaw12_LocatorDots.l0 k x0 x3 x4 (wrap64 (x5 + 1))))) else (none)) else (none))) else (broadsheetlaw12_LocatorDots.l0 k x0 x3 x4 (wrap64 (x5 + 1)))) else (none)) else (broadsheetlaw12_LocatorDots.l0 k x0 x3 x4 (wrap64 (x5 + 1)))) else (none)) else (none)) else (if x3 = true then ((locator_Dots.f k x4).bind fun t103 => (if t103.toList = x4.toList then (some (decide ((x4.size : Int) ≤ (wrap64 ((x0.size : Int) + 1))))) else (some false))) else (some false))
def broadsheetlaw12_LocatorDots.f (k : Nat) (a0 : ByteArray) : Option (Bool) := (broadsheetlaw12_awake.f).bind fun t101 => (if t101 = true then (if (a0.size : Int) > 2000 then (some t101) else ((locator_Dots.f k a0).bind fun t102 => (broadsheetlaw12_LocatorDots.l0 k a0 t101 t102 0))) else (some false))
theorem broadsheetlaw12_LocatorDots.mono_l : ∀ k, (∀ y0 y1 y2 y3, LeO (broadsheetlaw12_LocatorDots.l0 k y0 y1 y2 y3) (broadsheetlaw12_LocatorDots.l0 (k + 1) y0 y1 y2 y3))
  | 0 => fun _ _ _ _ r h => by simp [broadsheetlaw12_LocatorDots.l0] at h
  | k + 1 => by
    have ih0 := broadsheetlaw12_LocatorDots.mono_l k
    · intro y0 y1 y2 y3
      unfold broadsheetlaw12_LocatorDots.l0
      repeat' first
      | (with_reducible exact ih0 _ _ _ _)
      | (with_reducible exact locator_Dots.mono _ _)
      | (with_reducible exact LeO.refl _)
      | (with_reducible exact LeO.none _)
      | (with_reducible refine LeO.ite ?_ ?_)
      | (with_reducible refine LeO.bind ?_ (fun _ => ?_))
      | exact ih0 _ _ _ _
      | exact locator_Dots.mono _ _
      | exact LeO.none _
      | refine LeO.ite ?_ ?_
      | refine LeO.bind ?_ (fun _ => ?_)
theorem broadsheetlaw12_LocatorDots.mono : ∀ a0 k, LeO (broadsheetlaw12_LocatorDots.f k a0) (broadsheetlaw12_LocatorDots.f (k + 1) a0) := by
  intro a0 k
  have ih0 := broadsheetlaw12_LocatorDots.mono_l k
  unfold broadsheetlaw12_LocatorDots.f
  repeat' first
      | (with_reducible exact ih0 _ _ _ _)
      | (with_reducible exact locator_Dots.mono _ _)
      | (with_reducible exact LeO.refl _)
      | (with_reducible exact LeO.none _)
      | (with_reducible refine LeO.ite ?_ ?_)
      | (with_reducible refine LeO.bind ?_ (fun _ => ?_))
      | exact ih0 _ _ _ _
      | exact locator_Dots.mono _ _
      | exact LeO.none _
      | refine LeO.ite ?_ ?_
      | refine LeO.bind ?_ (fun _ => ?_)
set_option maxHeartbeats 8000000 in
set_option maxRecDepth 100000 in
theorem broadsheetlaw12_LocatorDots.calls (k : Nat) (a0 : ByteArray) (r : Bool) (w : World) (hG : Glob w) (h : broadsheetlaw12_LocatorDots.f k a0 = some r) :
    Calls Tryd.prog 7 #[.string a0] w fun e w' => e = .returned (.bool r) ∧ Below w.heap.size w w' := by
  have HG := Aside0.mk hG
  clear hG
  have HB := Aside0.mk (Below.refl w.heap.size w)
  have H : ((broadsheetlaw12_awake.f).bind fun t101 => (if t101 = true then (if (a0.size : Int) > 2000 then (some t101) else ((locator_Dots.f k a0).bind fun t102 => (broadsheetlaw12_LocatorDots.l0 k a0 t101 t102 0))) else (some false))) = some r := h
  clear h
  replace H := Option.bind_eq_some_iff.mp H
  obtain ⟨t101, A20, H⟩ := H
  replace H : (if t101 = true then (if (a0.size : Int) > 2000 then (some t101) else ((locator_Dots.f k a0).bind fun t102 => (broadsheetlaw12_LocatorDots.l0 k a0 t101 t102 0))) else (some false)) = some r := H
  have A2 := Aside0.mk A20
  clear A20
  by_cases c3 : t101 = true
  · subst c3
    have H1 : (if (a0.size : Int) > 2000 then (some true) else ((locator_Dots.f k a0).bind fun t102 => (broadsheetlaw12_LocatorDots.l0 k a0 true t102 0))) = some r := by first | (rw [if_pos rfl] at H; exact H) | (rw [if_pos trivial] at H; exact H)
    clear H
    have H := H1
    clear H1
    by_cases c4 : (a0.size : Int) > 2000
    · rw [if_pos c4] at H
      have c4b0 : decide (2000 < (a0.size : Int)) = true := decide_eq_true c4
      have c4b1 : decide (2000 < a0.size) = true := decide_eq_true (by omega)
      clear c4
      obtain rfl := Option.some.inj H
      go_enter Tryd.func7, Tryd.ntmps7
      go_wp2_with (first | ((with_reducible refine gate_callee (f := 10) rfl ?_); refine goesL_ (some 6) rfl rfl Tryd.func10 (by kernel_rfl) rfl #[] rfl (by (try simp only [List.map_toArray, List.map_cons, List.map_nil]); first | done | rfl | (simp only [List.length_drop, List.length_take]; rfl)) ?_; (with_reducible refine (broadsheetlaw12_awake.calls  true _ ?side1 A2.out).mono ?_); (case side1 => refine Glob.below HG.out ?_; repeat (first | (with_reducible first | exact HB.out | apply below_alloc | apply pw_below_drewN | apply below_drew1) | exact HB.out)); rintro e w5 ⟨rfl, hb⟩; refine ⟨_, rfl, ?_⟩; have n0_ := Aside0.mk (below_step (by repeat (first | (with_reducible first | exact HB.out | apply below_alloc | apply pw_below_drewN | apply below_drew1) | exact HB.out)) hb); clear HB; have HB := n0_; clear n0_; (try clear hb); (try clear hb2); (try clear hk); (try clear hi)))
      go_ret
      exact ⟨by first | rfl | (simp [errW_none, errW_some] <;> rfl) | (simp [*, errW_none, errW_some] <;> rfl), by repeat (first | (with_reducible first | exact HB.out | apply below_alloc | apply pw_below_drewN | apply below_drew1) | exact HB.out)⟩
    · rw [if_neg c4] at H
      have c4b0 : decide (2000 < (a0.size : Int)) = false := decide_eq_false c4
      have c4b1 : decide (2000 < a0.size) = false := decide_eq_false (by omega)
      clear c4
      replace H := Option.bind_eq_some_iff.mp H
      obtain ⟨t102, A60, H⟩ := H
      replace H : (broadsheetlaw12_LocatorDots.l0 k a0 true t102 0) = some r := H
      have A6 := Aside0.mk A60
      clear A60
      have H' := Aside0.mk H
      clear H
      go_enter Tryd.func7, Tryd.ntmps7
      go_wp2_with (first | ((with_reducible refine gate_callee (f := 10) rfl ?_); refine goesL_ (some 6) rfl rfl Tryd.func10 (by kernel_rfl) rfl #[] rfl (by (try simp only [List.map_toArray, List.map_cons, List.map_nil]); first | done | rfl | (simp only [List.length_drop, List.length_take]; rfl)) ?_; (with_reducible refine (broadsheetlaw12_awake.calls  true _ ?side1 A2.out).mono ?_); (case side1 => refine Glob.below HG.out ?_; repeat (first | (with_reducible first | exact HB.out | apply below_alloc | apply pw_below_drewN | apply below_drew1) | exact HB.out)); rintro e w7 ⟨rfl, hb⟩; refine ⟨_, rfl, ?_⟩; have n0_ := Aside0.mk (below_step (by repeat (first | (with_reducible first | exact HB.out | apply below_alloc | apply pw_below_drewN | apply below_drew1) | exact HB.out)) hb); clear HB; have HB := n0_; clear n0_; (try clear hb); (try clear hb2); (try clear hk); (try clear hi)) | ((with_reducible refine gate_callee (f := 16) rfl ?_); refine goesL_ (some 14) rfl rfl Tryd.func16 (by kernel_rfl) rfl #[.string a0] rfl (by (try simp only [List.map_toArray, List.map_cons, List.map_nil]); first | done | rfl | (simp only [List.length_drop, List.length_take]; rfl)) ?_; (with_reducible refine (locator_Dots.calls k a0 t102 _ A6.out).mono ?_); rintro e w8 ⟨rfl, hb⟩; refine ⟨_, rfl, ?_⟩; have n0_ := Aside0.mk (below_step (by repeat (first | (with_reducible first | exact HB.out | apply below_alloc | apply pw_below_drewN | apply below_drew1) | exact HB.out)) hb); clear HB; have HB := n0_; clear n0_; (try clear hb); (try clear hb2); (try clear hk); (try clear hi)))
      go_loopg [5] k (fun kq v5 w' => ∃ (x5_1 : Int), v5 = .int .i64 x5_1 ∧ Aside0 (broadsheetlaw12_LocatorDots.l0 kq a0 true t102 x5_1 = some r) ∧ Aside0 (kq ≤ k) ∧ Aside0 (Below w.heap.size w w'))
      case atStart => exact ⟨(0), (by first | rfl | (simp; done) | (simp [*]; done) | (simp [xx_ne_nil, xx_eq_nil]; done) | (simp [*, xx_ne_nil, xx_eq_nil]; done)), H', ⟨Nat.le_refl _⟩, ⟨by repeat (first | (with_reducible first | exact HB.out | apply below_alloc | apply pw_below_drewN | apply below_drew1) | exact HB.out)⟩⟩
      case round =>
        clear H'
        try clear c1
        try clear p2
        try clear c3
        try clear c4
        try clear c4b0
        try clear c4b1
        try clear c7
        obtain ⟨x5_1, rfl, HA, HK1, HB⟩ := hrel
        cases gk with
        | zero => exact absurd HA.out (by simp [broadsheetlaw12_LocatorDots.l0])
        | succ k1 =>
          have H := HA.out
          clear HA
          simp only [broadsheetlaw12_LocatorDots.l0] at H
          by_cases c9 : (wrap64 (x5_1 + 1)) < (t102.size : Int)
          · rw [if_pos c9] at H
            have c9b0 : decide ((wrap64 (x5_1 + 1)) < (t102.size : Int)) = true := decide_eq_true c9
            clear c9
            by_cases c10 : 0 ≤ x5_1
            · rw [if_pos c10] at H
              have c10b0 : decide (0 ≤ x5_1) = true := decide_eq_true c10
              clear c10
              by_cases c11 : x5_1 < (t102.size : Int)
              · rw [if_pos c11] at H
                have c11b0 : decide (x5_1 < (t102.size : Int)) = true := decide_eq_true c11
                clear c11
                by_cases c13 : (bt t102 x5_1) = 47
                · rw [if_pos c13] at H
                  have c13b0 : ((bt t102 x5_1) == 47) = true := beq_iff_eq.mpr c13
                  have c13b1 : ((bt t102 x5_1) != 47) = false := bne_eq_false_iff_eq.mpr c13
                  clear c13
                  obtain ⟨ji14, hji14⟩ : ∃ j_ : Int, (wrap64 (x5_1 + 1)) = j_ := ⟨_, rfl⟩
                  replace H : (if 0 ≤ (ji14) then (if (bt t102 (ji14)) = 46 then (if (wrap64 (x5_1 + 2)) = (t102.size : Int) then (some false) else (if 0 ≤ (wrap64 (x5_1 + 2)) then (if (wrap64 (x5_1 + 2)) < (t102.size : Int) then (if (bt t102 (wrap64 (x5_1 + 2))) = 47 then (some false) else (if (bt t102 (wrap64 (x5_1 + 2))) = 46 then (if (wrap64 (x5_1 + 3)) = (t102.size : Int) then (some false) else (if 0 ≤ (wrap64 (x5_1 + 3)) then (if (wrap64 (x5_1 + 3)) < (t102.size : Int) then (if (bt t102 (wrap64 (x5_1 + 3))) = 47 then (some false) else (broadsheetlaw12_LocatorDots.l0 k1 a0 true t102 ji14)) else (none)) else (none))) else (broadsheetlaw12_LocatorDots.l0 k1 a0 true t102 ji14))) else (none)) else (none))) else (broadsheetlaw12_LocatorDots.l0 k1 a0 true t102 ji14)) else (none)) = some r := by first | (rw [hji14] at H; exact H) | (simp only [hji14] at H ⊢; exact H)
                  (try rw [hji14] at c9b0)
                  have hji14w : (IntKind.i64.wrap (x5_1 + 1)) = ji14 := (i64_w _).trans hji14
                  by_cases c15 : 0 ≤ (ji14)
                  · rw [if_pos c15] at H
                    have c15b0 : decide (0 ≤ (ji14)) = true := decide_eq_true c15
                    clear c15
                    by_cases c17 : (bt t102 (ji14)) = 46
                    · rw [if_pos c17] at H
                      have c17b0 : ((bt t102 (ji14)) == 46) = true := beq_iff_eq.mpr c17
                      have c17b1 : ((bt t102 (ji14)) != 46) = false := bne_eq_false_iff_eq.mpr c17
                      clear c17
                      by_cases c18 : (wrap64 (x5_1 + 2)) = (t102.size : Int)
                      · rw [if_pos c18] at H
                        have c18b0 : ((wrap64 (x5_1 + 2)) == (t102.size : Int)) = true := beq_iff_eq.mpr c18
                        have c18b1 : ((wrap64 (x5_1 + 2)) != (t102.size : Int)) = false := bne_eq_false_iff_eq.mpr c18
                        clear c18
                        obtain rfl := Option.some.inj H
                        have p12 : 0 ≤ (x5_1 : Int) := of_decide_eq_true (by first | (with_reducible assumption) | assumption)
                        have q12 : x5_1 < (t102.size : Int) := of_decide_eq_true (by first | (with_reducible assumption) | assumption)
                        have hx12 := bt_at t102 x5_1
                        replace p12 := eq_true p12
                        replace q12 := eq_true q12
                        have p16 : 0 ≤ ((ji14) : Int) := of_decide_eq_true (by first | (with_reducible assumption) | assumption)
                        have q16 : (ji14) < (t102.size : Int) := of_decide_eq_true (by first | (with_reducible assumption) | assumption)
                        have hx16 := bt_at t102 (ji14)
                        replace p16 := eq_true p16
                        replace q16 := eq_true q16
                        go_wp2
                        go_ret
                        exact ⟨by first | rfl | (simp [errW_none, errW_some] <;> rfl) | (simp only [← hji14]; first | rfl | (simp [errW_none, errW_some] <;> rfl)) | (simp [*, errW_none, errW_some] <;> rfl), by repeat (first | (with_reducible first | exact HB.out | apply below_alloc | apply pw_below_drewN | apply below_drew1) | exact HB.out)⟩
                      · rw [if_neg c18] at H
                        have c18b0 : ((wrap64 (x5_1 + 2)) == (t102.size : Int)) = false := beq_eq_false_iff_ne.mpr c18
                        have c18b1 : ((wrap64 (x5_1 + 2)) != (t102.size : Int)) = true := bne_iff_ne.mpr c18
                        obtain ⟨ji19, hji19⟩ : ∃ j_ : Int, (wrap64 (x5_1 + 2)) = j_ := ⟨_, rfl⟩
                        replace H : (if 0 ≤ (ji19) then (if (ji19) < (t102.size : Int) then (if (bt t102 (ji19)) = 47 then (some false) else (if (bt t102 (ji19)) = 46 then (if (wrap64 (x5_1 + 3)) = (t102.size : Int) then (some false) else (if 0 ≤ (wrap64 (x5_1 + 3)) then (if (wrap64 (x5_1 + 3)) < (t102.size : Int) then (if (bt t102 (wrap64 (x5_1 + 3))) = 47 then (some false) else (broadsheetlaw12_LocatorDots.l0 k1 a0 true t102 ji14)) else (none)) else (none))) else (broadsheetlaw12_LocatorDots.l0 k1 a0 true t102 ji14))) else (none)) else (none)) = some r := by first | (rw [hji19] at H; exact H) | (simp only [hji19] at H ⊢; exact H)
                        (try rw [hji19] at c18b0)
                        (try rw [hji19] at c18b1)
                        have hji19w : (IntKind.i64.wrap (x5_1 + 2)) = ji19 := (i64_w _).trans hji19
                        by_cases c20 : 0 ≤ (ji19)
                        · rw [if_pos c20] at H
                          have c20b0 : decide (0 ≤ (ji19)) = true := decide_eq_true c20
                          clear c20
                          by_cases c21 : (ji19) < (t102.size : Int)
                          · rw [if_pos c21] at H
                            have c21b0 : decide ((ji19) < (t102.size : Int)) = true := decide_eq_true c21
                            clear c21
                            by_cases c23 : (bt t102 (ji19)) = 47
                            · rw [if_pos c23] at H
                              have c23b0 : ((bt t102 (ji19)) == 47) = true := beq_iff_eq.mpr c23
                              have c23b1 : ((bt t102 (ji19)) != 47) = false := bne_eq_false_iff_eq.mpr c23
                              clear c23
                              obtain rfl := Option.some.inj H
                              have p12 : 0 ≤ (x5_1 : Int) := of_decide_eq_true (by first | (with_reducible assumption) | assumption)
                              have q12 : x5_1 < (t102.size : Int) := of_decide_eq_true (by first | (with_reducible assumption) | assumption)
                              have hx12 := bt_at t102 x5_1
                              replace p12 := eq_true p12
                              replace q12 := eq_true q12
                              have p16 : 0 ≤ ((ji14) : Int) := of_decide_eq_true (by first | (with_reducible assumption) | assumption)
                              have q16 : (ji14) < (t102.size : Int) := of_decide_eq_true (by first | (with_reducible assumption) | assumption)
                              have hx16 := bt_at t102 (ji14)
                              replace p16 := eq_true p16
                              replace q16 := eq_true q16
                              have p22 : 0 ≤ ((ji19) : Int) := of_decide_eq_true (by first | (with_reducible assumption) | assumption)
                              have q22 : (ji19) < (t102.size : Int) := of_decide_eq_true (by first | (with_reducible assumption) | assumption)
                              have hx22 := bt_at t102 (ji19)
                              replace p22 := eq_true p22
                              replace q22 := eq_true q22
                              go_wp2
                              go_ret
                              exact ⟨by first | rfl | (simp [errW_none, errW_some] <;> rfl) | (simp only [← hji14, ← hji19]; first | rfl | (simp [errW_none, errW_some] <;> rfl)) | (simp [*, errW_none, errW_some] <;> rfl), by repeat (first | (with_reducible first | exact HB.out | apply below_alloc | apply pw_below_drewN | apply below_drew1) | exact HB.out)⟩
                            · rw [if_neg c23] at H
                              have c23b0 : ((bt t102 (ji19)) == 47) = false := beq_eq_false_iff_ne.mpr c23
                              have c23b1 : ((bt t102 (ji19)) != 47) = true := bne_iff_ne.mpr c23
                              by_cases c25 : (bt t102 (ji19)) = 46
                              · rw [if_pos c25] at H
                                have c25b0 : ((bt t102 (ji19)) == 46) = true := beq_iff_eq.mpr c25
                                have c25b1 : ((bt t102 (ji19)) != 46) = false := bne_eq_false_iff_eq.mpr c25
                                clear c25
                                by_cases c26 : (wrap64 (x5_1 + 3)) = (t102.size : Int)
                                · rw [if_pos c26] at H
                                  have c26b0 : ((wrap64 (x5_1 + 3)) == (t102.size : Int)) = true := beq_iff_eq.mpr c26
                                  have c26b1 : ((wrap64 (x5_1 + 3)) != (t102.size : Int)) = false := bne_eq_false_iff_eq.mpr c26
                                  clear c26
                                  obtain rfl := Option.some.inj H
                                  have p12 : 0 ≤ (x5_1 : Int) := of_decide_eq_true (by first | (with_reducible assumption) | assumption)
                                  have q12 : x5_1 < (t102.size : Int) := of_decide_eq_true (by first | (with_reducible assumption) | assumption)
                                  have hx12 := bt_at t102 x5_1
                                  replace p12 := eq_true p12
                                  replace q12 := eq_true q12
                                  have p16 : 0 ≤ ((ji14) : Int) := of_decide_eq_true (by first | (with_reducible assumption) | assumption)
                                  have q16 : (ji14) < (t102.size : Int) := of_decide_eq_true (by first | (with_reducible assumption) | assumption)
                                  have hx16 := bt_at t102 (ji14)
                                  replace p16 := eq_true p16
                                  replace q16 := eq_true q16
                                  have p22 : 0 ≤ ((ji19) : Int) := of_decide_eq_true (by first | (with_reducible assumption) | assumption)
                                  have q22 : (ji19) < (t102.size : Int) := of_decide_eq_true (by first | (with_reducible assumption) | assumption)
                                  have hx22 := bt_at t102 (ji19)
                                  replace p22 := eq_true p22
                                  replace q22 := eq_true q22
                                  have p24 : 0 ≤ ((ji19) : Int) := of_decide_eq_true (by first | (with_reducible assumption) | assumption)
                                  have q24 : (ji19) < (t102.size : Int) := of_decide_eq_true (by first | (with_reducible assumption) | assumption)
                                  have hx24 := bt_at t102 (ji19)
                                  replace p24 := eq_true p24
                                  replace q24 := eq_true q24
                                  go_wp2
                                  go_ret
                                  exact ⟨by first | rfl | (simp [errW_none, errW_some] <;> rfl) | (simp only [← hji14, ← hji19]; first | rfl | (simp [errW_none, errW_some] <;> rfl)) | (simp [*, errW_none, errW_some] <;> rfl), by repeat (first | (with_reducible first | exact HB.out | apply below_alloc | apply pw_below_drewN | apply below_drew1) | exact HB.out)⟩
                                · rw [if_neg c26] at H
                                  have c26b0 : ((wrap64 (x5_1 + 3)) == (t102.size : Int)) = false := beq_eq_false_iff_ne.mpr c26
                                  have c26b1 : ((wrap64 (x5_1 + 3)) != (t102.size : Int)) = true := bne_iff_ne.mpr c26
                                  obtain ⟨ji27, hji27⟩ : ∃ j_ : Int, (wrap64 (x5_1 + 3)) = j_ := ⟨_, rfl⟩
                                  replace H : (if 0 ≤ (ji27) then (if (ji27) < (t102.size : Int) then (if (bt t102 (ji27)) = 47 then (some false) else (broadsheetlaw12_LocatorDots.l0 k1 a0 true t102 ji14)) else (none)) else (none)) = some r := by first | (rw [hji27] at H; exact H) | (simp only [hji27] at H ⊢; exact H)
                                  (try rw [hji27] at c26b0)
                                  (try rw [hji27] at c26b1)
                                  have hji27w : (IntKind.i64.wrap (x5_1 + 3)) = ji27 := (i64_w _).trans hji27
                                  by_cases c28 : 0 ≤ (ji27)
                                  · rw [if_pos c28] at H
                                    have c28b0 : decide (0 ≤ (ji27)) = true := decide_eq_true c28
                                    clear c28
                                    by_cases c29 : (ji27) < (t102.size : Int)
                                    · rw [if_pos c29] at H
                                      have c29b0 : decide ((ji27) < (t102.size : Int)) = true := decide_eq_true c29
                                      clear c29
                                      by_cases c31 : (bt t102 (ji27)) = 47
                                      · rw [if_pos c31] at H
                                        have c31b0 : ((bt t102 (ji27)) == 47) = true := beq_iff_eq.mpr c31
                                        have c31b1 : ((bt t102 (ji27)) != 47) = false := bne_eq_false_iff_eq.mpr c31
                                        clear c31
                                        obtain rfl := Option.some.inj H
                                        have p12 : 0 ≤ (x5_1 : Int) := of_decide_eq_true (by first | (with_reducible assumption) | assumption)
                                        have q12 : x5_1 < (t102.size : Int) := of_decide_eq_true (by first | (with_reducible assumption) | assumption)
                                        have hx12 := bt_at t102 x5_1
                                        replace p12 := eq_true p12
                                        replace q12 := eq_true q12
                                        have p16 : 0 ≤ ((ji14) : Int) := of_decide_eq_true (by first | (with_reducible assumption) | assumption)
                                        have q16 : (ji14) < (t102.size : Int) := of_decide_eq_true (by first | (with_reducible assumption) | assumption)
                                        have hx16 := bt_at t102 (ji14)
                                        replace p16 := eq_true p16
                                        replace q16 := eq_true q16
                                        have p22 : 0 ≤ ((ji19) : Int) := of_decide_eq_true (by first | (with_reducible assumption) | assumption)
                                        have q22 : (ji19) < (t102.size : Int) := of_decide_eq_true (by first | (with_reducible assumption) | assumption)
                                        have hx22 := bt_at t102 (ji19)
                                        replace p22 := eq_true p22
                                        replace q22 := eq_true q22
                                        have p24 : 0 ≤ ((ji19) : Int) := of_decide_eq_true (by first | (with_reducible assumption) | assumption)
                                        have q24 : (ji19) < (t102.size : Int) := of_decide_eq_true (by first | (with_reducible assumption) | assumption)
                                        have hx24 := bt_at t102 (ji19)
                                        replace p24 := eq_true p24
                                        replace q24 := eq_true q24
                                        have p30 : 0 ≤ ((ji27) : Int) := of_decide_eq_true (by first | (with_reducible assumption) | assumption)
                                        have q30 : (ji27) < (t102.size : Int) := of_decide_eq_true (by first | (with_reducible assumption) | assumption)
                                        have hx30 := bt_at t102 (ji27)
                                        replace p30 := eq_true p30
                                        replace q30 := eq_true q30
                                        go_wp2
                                        go_ret
                                        exact ⟨by first | rfl | (simp [errW_none, errW_some] <;> rfl) | (simp only [← hji14, ← hji19, ← hji27]; first | rfl | (simp [errW_none, errW_some] <;> rfl)) | (simp [*, errW_none, errW_some] <;> rfl), by repeat (first | (with_reducible first | exact HB.out | apply below_alloc | apply pw_below_drewN | apply below_drew1) | exact HB.out)⟩
                                      · rw [if_neg c31] at H
                                        have c31b0 : ((bt t102 (ji27)) == 47) = false := beq_eq_false_iff_ne.mpr c31
                                        have c31b1 : ((bt t102 (ji27)) != 47) = true := bne_iff_ne.mpr c31
                                        have H' := Aside0.mk H
                                        clear H
                                        have p12 : 0 ≤ (x5_1 : Int) := of_decide_eq_true (by first | (with_reducible assumption) | assumption)
                                        have q12 : x5_1 < (t102.size : Int) := of_decide_eq_true (by first | (with_reducible assumption) | assumption)
                                        have hx12 := bt_at t102 x5_1
                                        replace p12 := eq_true p12
                                        replace q12 := eq_true q12
                                        have p16 : 0 ≤ ((ji14) : Int) := of_decide_eq_true (by first | (with_reducible assumption) | assumption)
                                        have q16 : (ji14) < (t102.size : Int) := of_decide_eq_true (by first | (with_reducible assumption) | assumption)
                                        have hx16 := bt_at t102 (ji14)
                                        replace p16 := eq_true p16
                                        replace q16 := eq_true q16
                                        have p22 : 0 ≤ ((ji19) : Int) := of_decide_eq_true (by first | (with_reducible assumption) | assumption)
                                        have q22 : (ji19) < (t102.size : Int) := of_decide_eq_true (by first | (with_reducible assumption) | assumption)
                                        have hx22 := bt_at t102 (ji19)
                                        replace p22 := eq_true p22
                                        replace q22 := eq_true q22
                                        have p24 : 0 ≤ ((ji19) : Int) := of_decide_eq_true (by first | (with_reducible assumption) | assumption)
                                        have q24 : (ji19) < (t102.size : Int) := of_decide_eq_true (by first | (with_reducible assumption) | assumption)
                                        have hx24 := bt_at t102 (ji19)
                                        replace p24 := eq_true p24
                                        replace q24 := eq_true q24
                                        have p30 : 0 ≤ ((ji27) : Int) := of_decide_eq_true (by first | (with_reducible assumption) | assumption)
                                        have q30 : (ji27) < (t102.size : Int) := of_decide_eq_true (by first | (with_reducible assumption) | assumption)
                                        have hx30 := bt_at t102 (ji27)
                                        replace p30 := eq_true p30
                                        replace q30 := eq_true q30
                                        go_wp2
                                        go_roundg k1
                                        case measure => have := HK1.out; omega
                                        case rel => exact ⟨(ji14), (by first | rfl | (simp; done) | (simp only [← hji14] <;> (first | rfl | simp)) | (simp [*]; done) | (simp [xx_ne_nil, xx_eq_nil]; done) | (simp [*, xx_ne_nil, xx_eq_nil]; done)), H', ⟨by have := HK1.out; omega⟩, ⟨by repeat (first | (with_reducible first | exact HB.out | apply below_alloc | apply pw_below_drewN | apply below_drew1) | exact HB.out)⟩⟩
                                    · rw [if_neg c29] at H
                                      exact absurd H (by simp)
                                  · rw [if_neg c28] at H
                                    exact absurd H (by simp)
                              · rw [if_neg c25] at H
                                have c25b0 : ((bt t102 (ji19)) == 46) = false := beq_eq_false_iff_ne.mpr c25
                                have c25b1 : ((bt t102 (ji19)) != 46) = true := bne_iff_ne.mpr c25
                                have H' := Aside0.mk H
                                clear H
                                have p12 : 0 ≤ (x5_1 : Int) := of_decide_eq_true (by first | (with_reducible assumption) | assumption)
                                have q12 : x5_1 < (t102.size : Int) := of_decide_eq_true (by first | (with_reducible assumption) | assumption)
                                have hx12 := bt_at t102 x5_1
                                replace p12 := eq_true p12
                                replace q12 := eq_true q12
                                have p16 : 0 ≤ ((ji14) : Int) := of_decide_eq_true (by first | (with_reducible assumption) | assumption)
                                have q16 : (ji14) < (t102.size : Int) := of_decide_eq_true (by first | (with_reducible assumption) | assumption)
                                have hx16 := bt_at t102 (ji14)
                                replace p16 := eq_true p16
                                replace q16 := eq_true q16
                                have p22 : 0 ≤ ((ji19) : Int) := of_decide_eq_true (by first | (with_reducible assumption) | assumption)
                                have q22 : (ji19) < (t102.size : Int) := of_decide_eq_true (by first | (with_reducible assumption) | assumption)
                                have hx22 := bt_at t102 (ji19)
                                replace p22 := eq_true p22
                                replace q22 := eq_true q22
                                have p24 : 0 ≤ ((ji19) : Int) := of_decide_eq_true (by first | (with_reducible assumption) | assumption)
                                have q24 : (ji19) < (t102.size : Int) := of_decide_eq_true (by first | (with_reducible assumption) | assumption)
                                have hx24 := bt_at t102 (ji19)
                                replace p24 := eq_true p24
                                replace q24 := eq_true q24
                                go_wp2
                                go_roundg k1
                                case measure => have := HK1.out; omega
                                case rel => exact ⟨(ji14), (by first | rfl | (simp; done) | (simp only [← hji14] <;> (first | rfl | simp)) | (simp [*]; done) | (simp [xx_ne_nil, xx_eq_nil]; done) | (simp [*, xx_ne_nil, xx_eq_nil]; done)), H', ⟨by have := HK1.out; omega⟩, ⟨by repeat (first | (with_reducible first | exact HB.out | apply below_alloc | apply pw_below_drewN | apply below_drew1) | exact HB.out)⟩⟩
                          · rw [if_neg c21] at H
                            exact absurd H (by simp)
                        · rw [if_neg c20] at H
                          exact absurd H (by simp)
                    · rw [if_neg c17] at H
                      have c17b0 : ((bt t102 (ji14)) == 46) = false := beq_eq_false_iff_ne.mpr c17
                      have c17b1 : ((bt t102 (ji14)) != 46) = true := bne_iff_ne.mpr c17
                      have H' := Aside0.mk H
                      clear H
                      have p12 : 0 ≤ (x5_1 : Int) := of_decide_eq_true (by first | (with_reducible assumption) | assumption)
                      have q12 : x5_1 < (t102.size : Int) := of_decide_eq_true (by first | (with_reducible assumption) | assumption)
                      have hx12 := bt_at t102 x5_1
                      replace p12 := eq_true p12
                      replace q12 := eq_true q12
                      have p16 : 0 ≤ ((ji14) : Int) := of_decide_eq_true (by first | (with_reducible assumption) | assumption)
                      have q16 : (ji14) < (t102.size : Int) := of_decide_eq_true (by first | (with_reducible assumption) | assumption)
                      have hx16 := bt_at t102 (ji14)
                      replace p16 := eq_true p16
                      replace q16 := eq_true q16
                      go_wp2
                      go_roundg k1
                      case measure => have := HK1.out; omega
                      case rel => exact ⟨(ji14), (by first | rfl | (simp; done) | (simp only [← hji14] <;> (first | rfl | simp)) | (simp [*]; done) | (simp [xx_ne_nil, xx_eq_nil]; done) | (simp [*, xx_ne_nil, xx_eq_nil]; done)), H', ⟨by have := HK1.out; omega⟩, ⟨by repeat (first | (with_reducible first | exact HB.out | apply below_alloc | apply pw_below_drewN | apply below_drew1) | exact HB.out)⟩⟩
                  · rw [if_neg c15] at H
                    exact absurd H (by simp)
                · rw [if_neg c13] at H
                  have c13b0 : ((bt t102 x5_1) == 47) = false := beq_eq_false_iff_ne.mpr c13
                  have c13b1 : ((bt t102 x5_1) != 47) = true := bne_iff_ne.mpr c13
                  have H' := Aside0.mk H
                  clear H
                  have p12 : 0 ≤ (x5_1 : Int) := of_decide_eq_true (by first | (with_reducible assumption) | assumption)
                  have q12 : x5_1 < (t102.size : Int) := of_decide_eq_true (by first | (with_reducible assumption) | assumption)
                  have hx12 := bt_at t102 x5_1
                  replace p12 := eq_true p12
                  replace q12 := eq_true q12
                  go_wp2
                  go_roundg k1
                  case measure => have := HK1.out; omega
                  case rel => exact ⟨(wrap64 (x5_1 + 1)), (by first | rfl | (simp; done) | (simp [*]; done) | (simp [xx_ne_nil, xx_eq_nil]; done) | (simp [*, xx_ne_nil, xx_eq_nil]; done)), H', ⟨by have := HK1.out; omega⟩, ⟨by repeat (first | (with_reducible first | exact HB.out | apply below_alloc | apply pw_below_drewN | apply below_drew1) | exact HB.out)⟩⟩
              · rw [if_neg c11] at H
                exact absurd H (by simp)
            · rw [if_neg c10] at H
              exact absurd H (by simp)
          · rw [if_neg c9] at H
            have c9b0 : decide ((wrap64 (x5_1 + 1)) < (t102.size : Int)) = false := decide_eq_false c9
            clear c9
            by_cases c32 : true = true
            · clear c32
              have H1 : ((locator_Dots.f k1 t102).bind fun t103 => (if t103.toList = t102.toList then (some (decide ((t102.size : Int) ≤ (wrap64 ((a0.size : Int) + 1))))) else (some false))) = some r := by first | (rw [if_pos rfl] at H; exact H) | (rw [if_pos trivial] at H; exact H)
              clear H
              have H := H1
              clear H1
              replace H := Option.bind_eq_some_iff.mp H
              obtain ⟨t103, A330, H⟩ := H
              replace H : (if t103.toList = t102.toList then (some (decide ((t102.size : Int) ≤ (wrap64 ((a0.size : Int) + 1))))) else (some false)) = some r := H
              have A33 := Aside0.mk A330
              clear A330
              by_cases c34 : t103.toList = t102.toList
              · rw [if_pos c34] at H
                have c34b0 : (t103.toList == t102.toList) = true := beq_iff_eq.mpr c34
                have c34b1 : (t103.toList != t102.toList) = false := bne_eq_false_iff_eq.mpr c34
                clear c34
                obtain rfl := Option.some.inj H
                go_wp2_with (first | (go_at_call 16; (with_reducible refine (locator_Dots.calls k1 t102 t103 _ A33.out).mono ?_); rintro e w35 ⟨rfl, hb⟩; have n0_ := Aside0.mk (below_step (by repeat (first | (with_reducible first | exact HB.out | apply below_alloc | apply pw_below_drewN | apply below_drew1) | exact HB.out)) hb); clear HB; have HB := n0_; clear n0_; (try clear hb); (try clear hb2); (try clear hk); (try clear hi)))
                go_ret
                exact ⟨by first | rfl | (simp [errW_none, errW_some] <;> rfl) | (simp [*, errW_none, errW_some] <;> rfl), by repeat (first | (with_reducible first | exact HB.out | apply below_alloc | apply pw_below_drewN | apply below_drew1) | exact HB.out)⟩
              · rw [if_neg c34] at H
                have c34b0 : (t103.toList == t102.toList) = false := beq_eq_false_iff_ne.mpr c34
                have c34b1 : (t103.toList != t102.toList) = true := bne_iff_ne.mpr c34
                obtain rfl := Option.some.inj H
                go_wp2_with (first | (go_at_call 16; (with_reducible refine (locator_Dots.calls k1 t102 t103 _ A33.out).mono ?_); rintro e w36 ⟨rfl, hb⟩; have n0_ := Aside0.mk (below_step (by repeat (first | (with_reducible first | exact HB.out | apply below_alloc | apply pw_below_drewN | apply below_drew1) | exact HB.out)) hb); clear HB; have HB := n0_; clear n0_; (try clear hb); (try clear hb2); (try clear hk); (try clear hi)))
                go_ret
                exact ⟨by first | rfl | (simp [errW_none, errW_some] <;> rfl) | (simp [*, errW_none, errW_some] <;> rfl), by repeat (first | (with_reducible first | exact HB.out | apply below_alloc | apply pw_below_drewN | apply below_drew1) | exact HB.out)⟩
            · exact absurd rfl c32
  · replace c3 := Bool.eq_false_iff.mpr c3
    subst c3
    have H1 : (some false) = some r := by rw [if_neg (show ¬ (false = true) by decide)] at H; exact H
    clear H
    have H := H1
    clear H1
    obtain rfl := Option.some.inj H
    go_enter Tryd.func7, Tryd.ntmps7
    go_wp2_with (first | ((with_reducible refine gate_callee (f := 10) rfl ?_); refine goesL_ (some 6) rfl rfl Tryd.func10 (by kernel_rfl) rfl #[] rfl (by (try simp only [List.map_toArray, List.map_cons, List.map_nil]); first | done | rfl | (simp only [List.length_drop, List.length_take]; rfl)) ?_; (with_reducible refine (broadsheetlaw12_awake.calls  false _ ?side1 A2.out).mono ?_); (case side1 => refine Glob.below HG.out ?_; repeat (first | (with_reducible first | exact HB.out | apply below_alloc | apply pw_below_drewN | apply below_drew1) | exact HB.out)); rintro e w37 ⟨rfl, hb⟩; refine ⟨_, rfl, ?_⟩; have n0_ := Aside0.mk (below_step (by repeat (first | (with_reducible first | exact HB.out | apply below_alloc | apply pw_below_drewN | apply below_drew1) | exact HB.out)) hb); clear HB; have HB := n0_; clear n0_; (try clear hb); (try clear hb2); (try clear hk); (try clear hi)))
    go_ret
    exact ⟨by first | rfl | (simp [errW_none, errW_some] <;> rfl) | (simp [*, errW_none, errW_some] <;> rfl), by repeat (first | (with_reducible first | exact HB.out | apply below_alloc | apply pw_below_drewN | apply below_drew1) | exact HB.out)⟩

/-- THE ONE PURE STATEMENT of broadsheetlaw12_LocatorDots: yours. -/
def broadsheetlaw12_LocatorDots.Pure : Prop := ∀ (a0 : ByteArray), a0.size ≤ 140737488351232 → ∃ k, broadsheetlaw12_LocatorDots.f k a0 = some true
theorem broadsheetlaw12_LocatorDots.walk (P : broadsheetlaw12_LocatorDots.Pure) (a0 : ByteArray) (w : World) (hG : Glob w) (w0 : a0.size ≤ 140737488351232) :
    Calls Tryd.prog 7 #[.string a0] w fun e w' => e = .returned (.bool true) ∧ Below w.heap.size w w' := by
  obtain ⟨k, h⟩ := P a0 w0
  refine (broadsheetlaw12_LocatorDots.calls k a0 true w hG h).mono ?_
  rintro e w' ⟨rfl, hd⟩
  exact ⟨rfl, hd⟩

end Go.Proofs.YtldancekpigkaaaDoor.Pc
