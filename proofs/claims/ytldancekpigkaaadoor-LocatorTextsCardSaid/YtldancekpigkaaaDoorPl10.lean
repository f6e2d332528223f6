-- Printed by xprint.py, this session's program over the kit's printer, out of the translation. Not trusted: Lean checks it.
import Derived.Test.YtldancekpigkaaaDoorPl0
import Derived.Test.YtldancekpigkaaaDoorXExt
namespace Go.Proofs.YtldancekpigkaaaDoor.Pl
open Go.RowKit Go.Proofs.YtldancekpigkaaaDoorW.PrintWords Go.Proofs.YtldancekpigkaaaDoorW.PrintLast Go.Proofs.YtldancekpigkaaaDoorW.PrintMore
attribute [local go_sem] max2_int min2_int max_two min_two max_three min_three max_four min_four   -- for this text's walks alone
open Go.Proofs.YtldancekpigkaaaDoor.X
set_option linter.unusedVariables false
set_option linter.unusedSimpArgs false

/-! ### broadsheetref12_Print: function 15 -/
mutual
def broadsheetref12_Print.j0 : Nat → ByteArray → ByteArray → ByteArray → ByteArray → ByteArray → ByteArray → Bool → Bool → Bool → Bool → Option (ByteArray)
  | 0, _, _, _, _, _, _, _, _, _, _ => none
  | k + 1, x3, x248000, x248001, x248002, x248003, x248004, x248005, x248006, x248007, x248008 => if x248006 = true then (if x3.size + 2 ≤ 9223372036854775807 then (if (x3 ++ (⟨#[47, 47]⟩ : ByteArray)).size + x248001.size ≤ 9223372036854775807 then (broadsheetref12_Print.j1 k ((x3 ++ (⟨#[47, 47]⟩ : ByteArray)) ++ x248001) x248000 x248001 x248002 x248003 x248004 x248005 x248006 x248007 x248008) else (none)) else (none)) else (broadsheetref12_Print.j1 k x3 x248000 x248001 x248002 x248003 x248004 x248005 x248006 x248007 x248008)
def broadsheetref12_Print.j1 : Nat → ByteArray → ByteArray → ByteArray → ByteArray → ByteArray → ByteArray → Bool → Bool → Bool → Bool → Option (ByteArray)
  | 0, _, _, _, _, _, _, _, _, _, _ => none
  | k + 1, x3, x248000, x248001, x248002, x248003, x248004, x248005, x248006, x248007, x248008 => if x3.size + x248002.size ≤ 9223372036854775807 then (if x248007 = true then (if (x3 ++ x248002).size + 1 ≤ 9223372036854775807 then (if ((x3 ++ x248002) ++ (⟨#[63]⟩ : ByteArray)).size + x248003.size ≤ 9223372036854775807 then (if x248008 = true then (if (((x3 ++ x248002) ++ (⟨#[63]⟩ : ByteArray)) ++ x248003).size + 1 ≤ 9223372036854775807 then (if ((((x3 ++ x248002) ++ (⟨#[63]⟩ : ByteArray)) ++ x248003) ++ (⟨#[35]⟩ : ByteArray)).size + x248004.size ≤ 9223372036854775807 then (some (((((x3 ++ x248002) ++ (⟨#[63]⟩ : ByteArray)) ++ x248003) ++ (⟨#[35]⟩ : ByteArray)) ++ x248004)) else (none)) else (none)) else (some (((x3 ++ x248002) ++ (⟨#[63]⟩ : ByteArray)) ++ x248003))) else (none)) else (none)) else (if x248008 = true then (if (x3 ++ x248002).size + 1 ≤ 9223372036854775807 then (if ((x3 ++ x248002) ++ (⟨#[35]⟩ : ByteArray)).size + x248004.size ≤ 9223372036854775807 then (some (((x3 ++ x248002) ++ (⟨#[35]⟩ : ByteArray)) ++ x248004)) else (none)) else (none)) else (some (x3 ++ x248002)))) else (none)
end
def broadsheetref12_Print.f (k : Nat) (a0_0 : ByteArray) (a0_1 : ByteArray) (a0_2 : ByteArray) (a0_3 : ByteArray) (a0_4 : ByteArray) (a0_5 : Bool) (a0_6 : Bool) (a0_7 : Bool) (a0_8 : Bool) : Option (ByteArray) := if a0_5 = true then (if a0_0.size + 1 ≤ 9223372036854775807 then (broadsheetref12_Print.j0 k (a0_0 ++ (⟨#[58]⟩ : ByteArray)) a0_0 a0_1 a0_2 a0_3 a0_4 a0_5 a0_6 a0_7 a0_8) else (none)) else (broadsheetref12_Print.j0 k (⟨#[]⟩ : ByteArray) a0_0 a0_1 a0_2 a0_3 a0_4 a0_5 a0_6 a0_7 a0_8)
theorem broadsheetref12_Print.mono_l : ∀ k, (∀ y0 y1 y2 y3 y4 y5 y6 y7 y8 y9, LeO (broadsheetref12_Print.j0 k y0 y1 y2 y3 y4 y5 y6 y7 y8 y9) (broadsheetref12_Print.j0 (k + 1) y0 y1 y2 y3 y4 y5 y6 y7 y8 y9)) ∧ (∀ y0 y1 y2 y3 y4 y5 y6 y7 y8 y9, LeO (broadsheetref12_Print.j1 k y0 y1 y2 y3 y4 y5 y6 y7 y8 y9) (broadsheetref12_Print.j1 (k + 1) y0 y1 y2 y3 y4 y5 y6 y7 y8 y9))
  | 0 => ⟨fun _ _ _ _ _ _ _ _ _ _ r h => by simp [broadsheetref12_Print.j0] at h, fun _ _ _ _ _ _ _ _ _ _ r h => by simp [broadsheetref12_Print.j1] at h⟩
  | k + 1 => by
    obtain ⟨ih0, ih1⟩ := broadsheetref12_Print.mono_l k
    refine ⟨?_, ?_⟩
    · intro y0 y1 y2 y3 y4 y5 y6 y7 y8 y9
      unfold broadsheetref12_Print.j0
      repeat' first
      | (with_reducible exact ih0 _ _ _ _ _ _ _ _ _ _)
      | (with_reducible exact ih1 _ _ _ _ _ _ _ _ _ _)
      | (with_reducible exact LeO.refl _)
      | (with_reducible exact LeO.none _)
      | (with_reducible refine LeO.ite ?_ ?_)
      | (with_reducible refine LeO.bind ?_ (fun _ => ?_))
      | exact ih0 _ _ _ _ _ _ _ _ _ _
      | exact ih1 _ _ _ _ _ _ _ _ _ _
      | exact LeO.none _
      | refine LeO.ite ?_ ?_
      | refine LeO.bind ?_ (fun _ => ?_)
    · intro y0 y1 y2 y3 y4 y5 y6 y7 y8 y9
      unfold broadsheetref12_Print.j1
      repeat' first
      | (with_reducible exact ih0 _ _ _ _ _ _ _ _ _ _)
      | (with_reducible exact ih1 _ _ _ _ _ _ _ _ _ _)
      | (with_reducible exact LeO.refl _)
      | (with_reducible exact LeO.none _)
      | (with_reducible refine LeO.ite ?_ ?_)
      | (with_reducible refine LeO.bind ?_ (fun _ => ?_))
      | exact ih0 _ _ _ _ _ _ _ _ _ _
      | exact ih1 _ _ _ _ _ _ _ _ _ _
      | exact LeO.none _
      | refine LeO.ite ?_ ?_
      | refine LeO.bind ?_ (fun _ => ?_)
theorem broadsheetref12_Print.mono : ∀ a0 a1 a2 a3 a4 a5 a6 a7 a8 k, LeO (broadsheetref12_Print.f k a0 a1 a2 a3 a4 a5 a6 a7 a8) (broadsheetref12_Print.f (k + 1) a0 a1 a2 a3 a4 a5 a6 a7 a8) := by
  intro a0 a1 a2 a3 a4 a5 a6 a7 a8 k
  obtain ⟨ih0, ih1⟩ := broadsheetref12_Print.mono_l k
  unfold broadsheetref12_Print.f
  repeat' first
      | (with_reducible exact ih0 _ _ _ _ _ _ _ _ _ _)
      | (with_reducible exact ih1 _ _ _ _ _ _ _ _ _ _)
      | (with_reducible exact LeO.refl _)
      | (with_reducible exact LeO.none _)
      | (with_reducible refine LeO.ite ?_ ?_)
      | (with_reducible refine LeO.bind ?_ (fun _ => ?_))
      | exact ih0 _ _ _ _ _ _ _ _ _ _
      | exact ih1 _ _ _ _ _ _ _ _ _ _
      | exact LeO.none _
      | refine LeO.ite ?_ ?_
      | refine LeO.bind ?_ (fun _ => ?_)
set_option maxHeartbeats 8000000 in
set_option maxRecDepth 100000 in
theorem broadsheetref12_Print.calls (k : Nat) (a0_0 : ByteArray) (a0_1 : ByteArray) (a0_2 : ByteArray) (a0_3 : ByteArray) (a0_4 : ByteArray) (a0_5 : Bool) (a0_6 : Bool) (a0_7 : Bool) (a0_8 : Bool) (r : ByteArray) (w : World) (h : broadsheetref12_Print.f k a0_0 a0_1 a0_2 a0_3 a0_4 a0_5 a0_6 a0_7 a0_8 = some r) :
    Calls Tryd.prog 15 #[.agg #[.string a0_0, .string a0_1, .string a0_2, .string a0_3, .string a0_4, .bool a0_5, .bool a0_6, .bool a0_7, .bool a0_8]] w fun e w' => e = .returned (.string r) ∧ Below w.heap.size w w' := by
  have hu24 := Tryd.underlying24
  have HB := Aside0.mk (Below.refl w.heap.size w)
  have H : (if a0_5 = true then (if a0_0.size + 1 ≤ 9223372036854775807 then (broadsheetref12_Print.j0 k (a0_0 ++ (⟨#[58]⟩ : ByteArray)) a0_0 a0_1 a0_2 a0_3 a0_4 a0_5 a0_6 a0_7 a0_8) else (none)) else (broadsheetref12_Print.j0 k (⟨#[]⟩ : ByteArray) a0_0 a0_1 a0_2 a0_3 a0_4 a0_5 a0_6 a0_7 a0_8)) = some r := h
  clear h
  have HC2 := Aside0.mk H
  clear H
  go_enter Tryd.func15, Tryd.ntmps15
  go_upto_if 5 with (first | ((with_reducible refine gate_dst (N := 1) rfl ?_); refine box_event ?hg (N := 1) ?hd (cs := #[.string a0_0, .string a0_1, .string a0_2, .string a0_3, .string a0_4, .bool a0_5, .bool a0_6, .bool a0_7, .bool a0_8]) (t := 24) ?hr ?_; (case hd => rfl); (case hg => rfl); (case hr => first | (go_simp; done) | (go_simp; rfl)); intro gb247 hg w3 hbox hb; have n0_ := Aside0.mk (below_step (by repeat (first | (with_reducible first | exact HB.out | apply below_alloc | apply pw_below_drewN | apply below_drew1) | exact HB.out)) hb); have n1_ := Aside0.mk (hbox); have n2_ := Aside0.mk ((by rw [hg]; exact (below_size (by repeat (first | (with_reducible first | exact HB.out | apply below_alloc | apply pw_below_drewN | apply below_drew1) | exact HB.out))) : w.heap.size ≤ gb247)); have n3_ := Aside0.mk ((by rw [hg]; exact (below_size (by repeat (first | (with_reducible first | exact HB.out | apply below_alloc | apply pw_below_drewN | apply below_drew1) | exact HB.out))) : w.heap.size ≤ gb247)); clear HB; have HB := n0_; have BK247 := n1_; have GW247 := n2_; have GE247 := n3_; clear n0_ n1_ n2_ n3_; clear hb hbox hg; have hcz4_0 : w3.cell? ⟨gb247, 0, none⟩ = some (.string a0_0) := (blk_cell BK247.out 0).trans rfl; have hcz4_1 : w3.cell? ⟨gb247, 1, none⟩ = some (.string a0_1) := (blk_cell BK247.out 1).trans rfl; have hcz4_2 : w3.cell? ⟨gb247, 2, none⟩ = some (.string a0_2) := (blk_cell BK247.out 2).trans rfl; have hcz4_3 : w3.cell? ⟨gb247, 3, none⟩ = some (.string a0_3) := (blk_cell BK247.out 3).trans rfl; have hcz4_4 : w3.cell? ⟨gb247, 4, none⟩ = some (.string a0_4) := (blk_cell BK247.out 4).trans rfl; have hcz4_5 : w3.cell? ⟨gb247, 5, none⟩ = some (.bool a0_5) := (blk_cell BK247.out 5).trans rfl; have hcz4_6 : w3.cell? ⟨gb247, 6, none⟩ = some (.bool a0_6) := (blk_cell BK247.out 6).trans rfl; have hcz4_7 : w3.cell? ⟨gb247, 7, none⟩ = some (.bool a0_7) := (blk_cell BK247.out 7).trans rfl; have hcz4_8 : w3.cell? ⟨gb247, 8, none⟩ = some (.bool a0_8) := (blk_cell BK247.out 8).trans rfl; have hfz4_0 := blk_frozen BK247.out 0; have hfz4_1 := blk_frozen BK247.out 1; have hfz4_2 := blk_frozen BK247.out 2; have hfz4_3 := blk_frozen BK247.out 3; have hfz4_4 := blk_frozen BK247.out 4; have hfz4_5 := blk_frozen BK247.out 5; have hfz4_6 := blk_frozen BK247.out 6; have hfz4_7 := blk_frozen BK247.out 7; have hfz4_8 := blk_frozen BK247.out 8))
  (try simp only [Act.put, List.setIfInBounds_toArray, List.set_cons_zero, List.set_cons_succ])
  go_cut [3] (fun v3 wc => ∃ (kq : Nat) (x3_1 : ByteArray), v3 = .string x3_1 ∧ Aside0 (broadsheetref12_Print.j0 kq x3_1 a0_0 a0_1 a0_2 a0_3 a0_4 a0_5 a0_6 a0_7 a0_8 = some r) ∧ Aside0 (kq ≤ k) ∧ Aside0 (wc.heap[gb247]? = some (.cells #[.string a0_0, .string a0_1, .string a0_2, .string a0_3, .string a0_4, .bool a0_5, .bool a0_6, .bool a0_7, .bool a0_8] 24 (0, 0))) ∧ Aside0 (Below w.heap.size w wc))
  case first =>
    have H := HC2.out
    clear HC2
    by_cases c5 : a0_5 = true
    · subst c5
      have H1 : (if a0_0.size + 1 ≤ 9223372036854775807 then (broadsheetref12_Print.j0 k (a0_0 ++ (⟨#[58]⟩ : ByteArray)) a0_0 a0_1 a0_2 a0_3 a0_4 true a0_6 a0_7 a0_8) else (none)) = some r := by rw [if_pos rfl] at H; exact H
      clear H
      have H := H1
      clear H1
      by_cases c6 : a0_0.size + 1 ≤ 9223372036854775807
      · rw [if_pos c6] at H
        have c6b0 := eq_true c6
        have c6b1 : decide (a0_0.size + 1 ≤ 9223372036854775807) = true := decide_eq_true c6
        try have c6b2 : (9223372036854775807 < a0_0.size + 1) = False := eq_false (Nat.not_lt.2 c6)
        have H' := Aside0.mk H
        clear H
        have hcz7_0 : w3.cell? ⟨gb247, 0, none⟩ = some (.string a0_0) := (blk_cell BK247.out 0).trans rfl
        have hcz7_1 : w3.cell? ⟨gb247, 1, none⟩ = some (.string a0_1) := (blk_cell BK247.out 1).trans rfl
        have hcz7_2 : w3.cell? ⟨gb247, 2, none⟩ = some (.string a0_2) := (blk_cell BK247.out 2).trans rfl
        have hcz7_3 : w3.cell? ⟨gb247, 3, none⟩ = some (.string a0_3) := (blk_cell BK247.out 3).trans rfl
        have hcz7_4 : w3.cell? ⟨gb247, 4, none⟩ = some (.string a0_4) := (blk_cell BK247.out 4).trans rfl
        have hcz7_5 : w3.cell? ⟨gb247, 5, none⟩ = some (.bool true) := (blk_cell BK247.out 5).trans rfl
        have hcz7_6 : w3.cell? ⟨gb247, 6, none⟩ = some (.bool a0_6) := (blk_cell BK247.out 6).trans rfl
        have hcz7_7 : w3.cell? ⟨gb247, 7, none⟩ = some (.bool a0_7) := (blk_cell BK247.out 7).trans rfl
        have hcz7_8 : w3.cell? ⟨gb247, 8, none⟩ = some (.bool a0_8) := (blk_cell BK247.out 8).trans rfl
        have hfz7_0 := blk_frozen BK247.out 0
        have hfz7_1 := blk_frozen BK247.out 1
        have hfz7_2 := blk_frozen BK247.out 2
        have hfz7_3 := blk_frozen BK247.out 3
        have hfz7_4 := blk_frozen BK247.out 4
        have hfz7_5 := blk_frozen BK247.out 5
        have hfz7_6 := blk_frozen BK247.out 6
        have hfz7_7 := blk_frozen BK247.out 7
        have hfz7_8 := blk_frozen BK247.out 8
        go_wp2
        go_meet
        case rel => exact ⟨_, (a0_0 ++ (⟨#[58]⟩ : ByteArray)), (by first | rfl | (simp; done) | (simp [*]; done) | (simp [xx_ne_nil, xx_eq_nil]; done) | (simp [*, xx_ne_nil, xx_eq_nil]; done)), H', ⟨by first | omega | exact Nat.le_refl _⟩, ⟨by (with_reducible repeat (first | refine blk_drewN ?_ _ | refine blk_drew ?_ | refine blk_alloc ?_ _)); exact BK247.out⟩, ⟨by repeat (first | (with_reducible first | exact HB.out | apply below_alloc | apply pw_below_drewN | apply below_drew1 | refine below_set ?_ GE247.out) | exact HB.out)⟩⟩
      · rw [if_neg c6] at H
        exact absurd H (by simp)
    · replace c5 := Bool.eq_false_iff.mpr c5
      subst c5
      have H1 : (broadsheetref12_Print.j0 k (⟨#[]⟩ : ByteArray) a0_0 a0_1 a0_2 a0_3 a0_4 false a0_6 a0_7 a0_8) = some r := by rw [if_neg (show ¬ (false = true) by decide)] at H; exact H
      clear H
      have H := H1
      clear H1
      have H' := Aside0.mk H
      clear H
      go_wp2
      go_meet
      case rel => exact ⟨_, ((⟨#[]⟩ : ByteArray)), (by first | rfl | (simp; done) | (simp [*]; done) | (simp [xx_ne_nil, xx_eq_nil]; done) | (simp [*, xx_ne_nil, xx_eq_nil]; done)), H', ⟨by first | omega | exact Nat.le_refl _⟩, ⟨by (with_reducible repeat (first | refine blk_drewN ?_ _ | refine blk_drew ?_ | refine blk_alloc ?_ _)); exact BK247.out⟩, ⟨by repeat (first | (with_reducible first | exact HB.out | apply below_alloc | apply pw_below_drewN | apply below_drew1 | refine below_set ?_ GE247.out) | exact HB.out)⟩⟩
  case rest =>
    clear HC2
    try clear c1
    try clear p2
    try clear c5
    try clear c6
    try clear c6b0
    try clear c6b1
    try clear c6b2
    try clear hcz4_0
    try clear hcz4_1
    try clear hcz4_2
    try clear hcz4_3
    try clear hcz4_4
    try clear hcz4_5
    try clear hcz4_6
    try clear hcz4_7
    try clear hcz4_8
    try clear hcz7_0
    try clear hcz7_1
    try clear hcz7_2
    try clear hcz7_3
    try clear hcz7_4
    try clear hcz7_5
    try clear hcz7_6
    try clear hcz7_7
    try clear hcz7_8
    try clear hfz4_0
    try clear hfz4_1
    try clear hfz4_2
    try clear hfz4_3
    try clear hfz4_4
    try clear hfz4_5
    try clear hfz4_6
    try clear hfz4_7
    try clear hfz4_8
    try clear hfz7_0
    try clear hfz7_1
    try clear hfz7_2
    try clear hfz7_3
    try clear hfz7_4
    try clear hfz7_5
    try clear hfz7_6
    try clear hfz7_7
    try clear hfz7_8
    obtain ⟨kq, x3_1, rfl, HA, HJ1, BK247, HB⟩ := hcut
    cases kq with
    | zero => exact absurd HA.out (by simp [broadsheetref12_Print.j0])
    | succ kj1 =>
      have H := HA.out
      clear HA
      simp only [broadsheetref12_Print.j0] at H
      have HC8 := Aside0.mk H
      clear H
      have hcz9_0 : wc.cell? ⟨gb247, 0, none⟩ = some (.string a0_0) := (blk_cell BK247.out 0).trans rfl
      have hcz9_1 : wc.cell? ⟨gb247, 1, none⟩ = some (.string a0_1) := (blk_cell BK247.out 1).trans rfl
      have hcz9_2 : wc.cell? ⟨gb247, 2, none⟩ = some (.string a0_2) := (blk_cell BK247.out 2).trans rfl
      have hcz9_3 : wc.cell? ⟨gb247, 3, none⟩ = some (.string a0_3) := (blk_cell BK247.out 3).trans rfl
      have hcz9_4 : wc.cell? ⟨gb247, 4, none⟩ = some (.string a0_4) := (blk_cell BK247.out 4).trans rfl
      have hcz9_5 : wc.cell? ⟨gb247, 5, none⟩ = some (.bool a0_5) := (blk_cell BK247.out 5).trans rfl
      have hcz9_6 : wc.cell? ⟨gb247, 6, none⟩ = some (.bool a0_6) := (blk_cell BK247.out 6).trans rfl
      have hcz9_7 : wc.cell? ⟨gb247, 7, none⟩ = some (.bool a0_7) := (blk_cell BK247.out 7).trans rfl
      have hcz9_8 : wc.cell? ⟨gb247, 8, none⟩ = some (.bool a0_8) := (blk_cell BK247.out 8).trans rfl
      have hfz9_0 := blk_frozen BK247.out 0
      have hfz9_1 := blk_frozen BK247.out 1
      have hfz9_2 := blk_frozen BK247.out 2
      have hfz9_3 := blk_frozen BK247.out 3
      have hfz9_4 := blk_frozen BK247.out 4
      have hfz9_5 := blk_frozen BK247.out 5
      have hfz9_6 := blk_frozen BK247.out 6
      have hfz9_7 := blk_frozen BK247.out 7
      have hfz9_8 := blk_frozen BK247.out 8
      go_upto_if 10 with (fail)
      go_cut [3] (fun v3 wc => ∃ (kq : Nat) (x3_7 : ByteArray), v3 = .string x3_7 ∧ Aside0 (broadsheetref12_Print.j1 kq x3_7 a0_0 a0_1 a0_2 a0_3 a0_4 a0_5 a0_6 a0_7 a0_8 = some r) ∧ Aside0 (kq ≤ kj1) ∧ Aside0 (wc.heap[gb247]? = some (.cells #[.string a0_0, .string a0_1, .string a0_2, .string a0_3, .string a0_4, .bool a0_5, .bool a0_6, .bool a0_7, .bool a0_8] 24 (0, 0))) ∧ Aside0 (Below w.heap.size w wc))
      case first =>
        have H := HC8.out
        clear HC8
        by_cases c10 : a0_6 = true
        · subst c10
          have H1 : (if x3_1.size + 2 ≤ 9223372036854775807 then (if (x3_1 ++ (⟨#[47, 47]⟩ : ByteArray)).size + a0_1.size ≤ 9223372036854775807 then (broadsheetref12_Print.j1 kj1 ((x3_1 ++ (⟨#[47, 47]⟩ : ByteArray)) ++ a0_1) a0_0 a0_1 a0_2 a0_3 a0_4 a0_5 true a0_7 a0_8) else (none)) else (none)) = some r := by rw [if_pos rfl] at H; exact H
          clear H
          have H := H1
          clear H1
          by_cases c11 : x3_1.size + 2 ≤ 9223372036854775807
          · rw [if_pos c11] at H
            have c11b0 := eq_true c11
            have c11b1 : decide (x3_1.size + 2 ≤ 9223372036854775807) = true := decide_eq_true c11
            try have c11b2 : (9223372036854775807 < x3_1.size + 2) = False := eq_false (Nat.not_lt.2 c11)
            by_cases c12 : (x3_1 ++ (⟨#[47, 47]⟩ : ByteArray)).size + a0_1.size ≤ 9223372036854775807
            · rw [if_pos c12] at H
              have c12b0 := eq_true c12
              have c12b1 : decide ((x3_1 ++ (⟨#[47, 47]⟩ : ByteArray)).size + a0_1.size ≤ 9223372036854775807) = true := decide_eq_true c12
              try have c12b2 : (9223372036854775807 < (x3_1 ++ (⟨#[47, 47]⟩ : ByteArray)).size + a0_1.size) = False := eq_false (Nat.not_lt.2 c12)
              try have c12b4 : (9223372036854775807 < x3_1.size + 2 + a0_1.size) = False := (congrArg (fun n => 9223372036854775807 < n) (show x3_1.size + 2 + a0_1.size = (x3_1 ++ (⟨#[47, 47]⟩ : ByteArray)).size + a0_1.size from by simp only [ByteArray.size_append] <;> rfl)).trans c12b2
              have H' := Aside0.mk H
              clear H
              have hcz13_0 : wc.cell? ⟨gb247, 0, none⟩ = some (.string a0_0) := (blk_cell BK247.out 0).trans rfl
              have hcz13_1 : wc.cell? ⟨gb247, 1, none⟩ = some (.string a0_1) := (blk_cell BK247.out 1).trans rfl
              have hcz13_2 : wc.cell? ⟨gb247, 2, none⟩ = some (.string a0_2) := (blk_cell BK247.out 2).trans rfl
              have hcz13_3 : wc.cell? ⟨gb247, 3, none⟩ = some (.string a0_3) := (blk_cell BK247.out 3).trans rfl
              have hcz13_4 : wc.cell? ⟨gb247, 4, none⟩ = some (.string a0_4) := (blk_cell BK247.out 4).trans rfl
              have hcz13_5 : wc.cell? ⟨gb247, 5, none⟩ = some (.bool a0_5) := (blk_cell BK247.out 5).trans rfl
              have hcz13_6 : wc.cell? ⟨gb247, 6, none⟩ = some (.bool true) := (blk_cell BK247.out 6).trans rfl
              have hcz13_7 : wc.cell? ⟨gb247, 7, none⟩ = some (.bool a0_7) := (blk_cell BK247.out 7).trans rfl
              have hcz13_8 : wc.cell? ⟨gb247, 8, none⟩ = some (.bool a0_8) := (blk_cell BK247.out 8).trans rfl
              have hfz13_0 := blk_frozen BK247.out 0
              have hfz13_1 := blk_frozen BK247.out 1
              have hfz13_2 := blk_frozen BK247.out 2
              have hfz13_3 := blk_frozen BK247.out 3
              have hfz13_4 := blk_frozen BK247.out 4
              have hfz13_5 := blk_frozen BK247.out 5
              have hfz13_6 := blk_frozen BK247.out 6
              have hfz13_7 := blk_frozen BK247.out 7
              have hfz13_8 := blk_frozen BK247.out 8
              go_wp2
              go_meet
              case rel => exact ⟨_, ((x3_1 ++ (⟨#[47, 47]⟩ : ByteArray)) ++ a0_1), (by first | rfl | (simp; done) | (simp [*]; done) | (simp [xx_ne_nil, xx_eq_nil]; done) | (simp [*, xx_ne_nil, xx_eq_nil]; done)), H', ⟨by have := HJ1.out; first | omega | exact Nat.le_refl _⟩, ⟨by (with_reducible repeat (first | refine blk_drewN ?_ _ | refine blk_drew ?_ | refine blk_alloc ?_ _)); exact BK247.out⟩, ⟨by repeat (first | (with_reducible first | exact HB.out | apply below_alloc | apply pw_below_drewN | apply below_drew1 | refine below_set ?_ GE247.out) | exact HB.out)⟩⟩
            · rw [if_neg c12] at H
              exact absurd H (by simp)
          · rw [if_neg c11] at H
            exact absurd H (by simp)
        · replace c10 := Bool.eq_false_iff.mpr c10
          subst c10
          have H1 : (broadsheetref12_Print.j1 kj1 x3_1 a0_0 a0_1 a0_2 a0_3 a0_4 a0_5 false a0_7 a0_8) = some r := by rw [if_neg (show ¬ (false = true) by decide)] at H; exact H
          clear H
          have H := H1
          clear H1
          have H' := Aside0.mk H
          clear H
          go_wp2
          go_meet
          case rel => exact ⟨_, (x3_1), (by first | rfl | (simp; done) | (simp [*]; done) | (simp [xx_ne_nil, xx_eq_nil]; done) | (simp [*, xx_ne_nil, xx_eq_nil]; done)), H', ⟨by have := HJ1.out; first | omega | exact Nat.le_refl _⟩, ⟨by (with_reducible repeat (first | refine blk_drewN ?_ _ | refine blk_drew ?_ | refine blk_alloc ?_ _)); exact BK247.out⟩, ⟨by repeat (first | (with_reducible first | exact HB.out | apply below_alloc | apply pw_below_drewN | apply below_drew1 | refine below_set ?_ GE247.out) | exact HB.out)⟩⟩
      case rest =>
        clear HC8
        try clear c1
        try clear p2
        try clear c5
        try clear c6
        try clear c6b0
        try clear c6b1
        try clear c6b2
        try clear c10
        try clear c11
        try clear c11b0
        try clear c11b1
        try clear c11b2
        try clear c12
        try clear c12b0
        try clear c12b1
        try clear c12b2
        try clear hcz13_0
        try clear hcz13_1
        try clear hcz13_2
        try clear hcz13_3
        try clear hcz13_4
        try clear hcz13_5
        try clear hcz13_6
        try clear hcz13_7
        try clear hcz13_8
        try clear hcz4_0
        try clear hcz4_1
        try clear hcz4_2
        try clear hcz4_3
        try clear hcz4_4
        try clear hcz4_5
        try clear hcz4_6
        try clear hcz4_7
        try clear hcz4_8
        try clear hcz7_0
        try clear hcz7_1
        try clear hcz7_2
        try clear hcz7_3
        try clear hcz7_4
        try clear hcz7_5
        try clear hcz7_6
        try clear hcz7_7
        try clear hcz7_8
        try clear hcz9_0
        try clear hcz9_1
        try clear hcz9_2
        try clear hcz9_3
        try clear hcz9_4
        try clear hcz9_5
        try clear hcz9_6
        try clear hcz9_7
        try clear hcz9_8
        try clear hfz13_0
        try clear hfz13_1
        try clear hfz13_2
        try clear hfz13_3
        try clear hfz13_4
        try clear hfz13_5
        try clear hfz13_6
        try clear hfz13_7
        try clear hfz13_8
        try clear hfz4_0
        try clear hfz4_1
        try clear hfz4_2
        try clear hfz4_3
        try clear hfz4_4
        try clear hfz4_5
        try clear hfz4_6
        try clear hfz4_7
        try clear hfz4_8
        try clear hfz7_0
        try clear hfz7_1
        try clear hfz7_2
        try clear hfz7_3
        try clear hfz7_4
        try clear hfz7_5
        try clear hfz7_6
        try clear hfz7_7
        try clear hfz7_8
        try clear hfz9_0
        try clear hfz9_1
        try clear hfz9_2
        try clear hfz9_3
        try clear hfz9_4
        try clear hfz9_5
        try clear hfz9_6
        try clear hfz9_7
        try clear hfz9_8
        try clear p2
        obtain ⟨kq, x3_7, rfl, HA, HJ7, BK247, HB⟩ := hcut
        cases kq with
        | zero => exact absurd HA.out (by simp [broadsheetref12_Print.j1])
        | succ kj7 =>
          have H := HA.out
          clear HA
          simp only [broadsheetref12_Print.j1] at H
          by_cases c14 : x3_7.size + a0_2.size ≤ 9223372036854775807
          · rw [if_pos c14] at H
            have c14b0 := eq_true c14
            have c14b1 : decide (x3_7.size + a0_2.size ≤ 9223372036854775807) = true := decide_eq_true c14
            try have c14b2 : (9223372036854775807 < x3_7.size + a0_2.size) = False := eq_false (Nat.not_lt.2 c14)
            by_cases c15 : a0_7 = true
            · subst c15
              have H1 : (if (x3_7 ++ a0_2).size + 1 ≤ 9223372036854775807 then (if ((x3_7 ++ a0_2) ++ (⟨#[63]⟩ : ByteArray)).size + a0_3.size ≤ 9223372036854775807 then (if a0_8 = true then (if (((x3_7 ++ a0_2) ++ (⟨#[63]⟩ : ByteArray)) ++ a0_3).size + 1 ≤ 9223372036854775807 then (if ((((x3_7 ++ a0_2) ++ (⟨#[63]⟩ : ByteArray)) ++ a0_3) ++ (⟨#[35]⟩ : ByteArray)).size + a0_4.size ≤ 9223372036854775807 then (some (((((x3_7 ++ a0_2) ++ (⟨#[63]⟩ : ByteArray)) ++ a0_3) ++ (⟨#[35]⟩ : ByteArray)) ++ a0_4)) else (none)) else (none)) else (some (((x3_7 ++ a0_2) ++ (⟨#[63]⟩ : ByteArray)) ++ a0_3))) else (none)) else (none)) = some r := by rw [if_pos rfl] at H; exact H
              clear H
              have H := H1
              clear H1
              by_cases c16 : (x3_7 ++ a0_2).size + 1 ≤ 9223372036854775807
              · rw [if_pos c16] at H
                have c16b0 := eq_true c16
                have c16b1 : decide ((x3_7 ++ a0_2).size + 1 ≤ 9223372036854775807) = true := decide_eq_true c16
                try have c16b2 : (9223372036854775807 < (x3_7 ++ a0_2).size + 1) = False := eq_false (Nat.not_lt.2 c16)
                try have c16b4 : (9223372036854775807 < x3_7.size + a0_2.size + 1) = False := (congrArg (fun n => 9223372036854775807 < n) (show x3_7.size + a0_2.size + 1 = (x3_7 ++ a0_2).size + 1 from by simp only [ByteArray.size_append] <;> rfl)).trans c16b2
                by_cases c17 : ((x3_7 ++ a0_2) ++ (⟨#[63]⟩ : ByteArray)).size + a0_3.size ≤ 9223372036854775807
                · rw [if_pos c17] at H
                  have c17b0 := eq_true c17
                  have c17b1 : decide (((x3_7 ++ a0_2) ++ (⟨#[63]⟩ : ByteArray)).size + a0_3.size ≤ 9223372036854775807) = true := decide_eq_true c17
                  try have c17b2 : (9223372036854775807 < ((x3_7 ++ a0_2) ++ (⟨#[63]⟩ : ByteArray)).size + a0_3.size) = False := eq_false (Nat.not_lt.2 c17)
                  try have c17b4 : (9223372036854775807 < x3_7.size + a0_2.size + 1 + a0_3.size) = False := (congrArg (fun n => 9223372036854775807 < n) (show x3_7.size + a0_2.size + 1 + a0_3.size = ((x3_7 ++ a0_2) ++ (⟨#[63]⟩ : ByteArray)).size + a0_3.size from by simp only [ByteArray.size_append] <;> rfl)).trans c17b2
                  by_cases c18 : a0_8 = true
                  · subst c18
                    have H1 : (if (((x3_7 ++ a0_2) ++ (⟨#[63]⟩ : ByteArray)) ++ a0_3).size + 1 ≤ 9223372036854775807 then (if ((((x3_7 ++ a0_2) ++ (⟨#[63]⟩ : ByteArray)) ++ a0_3) ++ (⟨#[35]⟩ : ByteArray)).size + a0_4.size ≤ 9223372036854775807 then (some (((((x3_7 ++ a0_2) ++ (⟨#[63]⟩ : ByteArray)) ++ a0_3) ++ (⟨#[35]⟩ : ByteArray)) ++ a0_4)) else (none)) else (none)) = some r := by rw [if_pos rfl] at H; exact H
                    clear H
                    have H := H1
                    clear H1
                    by_cases c19 : (((x3_7 ++ a0_2) ++ (⟨#[63]⟩ : ByteArray)) ++ a0_3).size + 1 ≤ 9223372036854775807
                    · rw [if_pos c19] at H
                      have c19b0 := eq_true c19
                      have c19b1 : decide ((((x3_7 ++ a0_2) ++ (⟨#[63]⟩ : ByteArray)) ++ a0_3).size + 1 ≤ 9223372036854775807) = true := decide_eq_true c19
                      try have c19b2 : (9223372036854775807 < (((x3_7 ++ a0_2) ++ (⟨#[63]⟩ : ByteArray)) ++ a0_3).size + 1) = False := eq_false (Nat.not_lt.2 c19)
                      try have c19b4 : (9223372036854775807 < x3_7.size + a0_2.size + 1 + a0_3.size + 1) = False := (congrArg (fun n => 9223372036854775807 < n) (show x3_7.size + a0_2.size + 1 + a0_3.size + 1 = (((x3_7 ++ a0_2) ++ (⟨#[63]⟩ : ByteArray)) ++ a0_3).size + 1 from by simp only [ByteArray.size_append] <;> rfl)).trans c19b2
                      by_cases c20 : ((((x3_7 ++ a0_2) ++ (⟨#[63]⟩ : ByteArray)) ++ a0_3) ++ (⟨#[35]⟩ : ByteArray)).size + a0_4.size ≤ 9223372036854775807
                      · rw [if_pos c20] at H
                        have c20b0 := eq_true c20
                        have c20b1 : decide (((((x3_7 ++ a0_2) ++ (⟨#[63]⟩ : ByteArray)) ++ a0_3) ++ (⟨#[35]⟩ : ByteArray)).size + a0_4.size ≤ 9223372036854775807) = true := decide_eq_true c20
                        try have c20b2 : (9223372036854775807 < ((((x3_7 ++ a0_2) ++ (⟨#[63]⟩ : ByteArray)) ++ a0_3) ++ (⟨#[35]⟩ : ByteArray)).size + a0_4.size) = False := eq_false (Nat.not_lt.2 c20)
                        try have c20b4 : (9223372036854775807 < x3_7.size + a0_2.size + 1 + a0_3.size + 1 + a0_4.size) = False := (congrArg (fun n => 9223372036854775807 < n) (show x3_7.size + a0_2.size + 1 + a0_3.size + 1 + a0_4.size = ((((x3_7 ++ a0_2) ++ (⟨#[63]⟩ : ByteArray)) ++ a0_3) ++ (⟨#[35]⟩ : ByteArray)).size + a0_4.size from by simp only [ByteArray.size_append] <;> rfl)).trans c20b2
                        obtain rfl := Option.some.inj H
                        have hcz21_0 : wc.cell? ⟨gb247, 0, none⟩ = some (.string a0_0) := (blk_cell BK247.out 0).trans rfl
                        have hcz21_1 : wc.cell? ⟨gb247, 1, none⟩ = some (.string a0_1) := (blk_cell BK247.out 1).trans rfl
                        have hcz21_2 : wc.cell? ⟨gb247, 2, none⟩ = some (.string a0_2) := (blk_cell BK247.out 2).trans rfl
                        have hcz21_3 : wc.cell? ⟨gb247, 3, none⟩ = some (.string a0_3) := (blk_cell BK247.out 3).trans rfl
                        have hcz21_4 : wc.cell? ⟨gb247, 4, none⟩ = some (.string a0_4) := (blk_cell BK247.out 4).trans rfl
                        have hcz21_5 : wc.cell? ⟨gb247, 5, none⟩ = some (.bool a0_5) := (blk_cell BK247.out 5).trans rfl
                        have hcz21_6 : wc.cell? ⟨gb247, 6, none⟩ = some (.bool a0_6) := (blk_cell BK247.out 6).trans rfl
                        have hcz21_7 : wc.cell? ⟨gb247, 7, none⟩ = some (.bool true) := (blk_cell BK247.out 7).trans rfl
                        have hcz21_8 : wc.cell? ⟨gb247, 8, none⟩ = some (.bool true) := (blk_cell BK247.out 8).trans rfl
                        have hfz21_0 := blk_frozen BK247.out 0
                        have hfz21_1 := blk_frozen BK247.out 1
                        have hfz21_2 := blk_frozen BK247.out 2
                        have hfz21_3 := blk_frozen BK247.out 3
                        have hfz21_4 := blk_frozen BK247.out 4
                        have hfz21_5 := blk_frozen BK247.out 5
                        have hfz21_6 := blk_frozen BK247.out 6
                        have hfz21_7 := blk_frozen BK247.out 7
                        have hfz21_8 := blk_frozen BK247.out 8
                        go_wp2
                        go_ret
                        exact ⟨by first | rfl | (simp [errW_none, errW_some] <;> rfl) | (simp [*, errW_none, errW_some] <;> rfl), by repeat (first | (with_reducible first | exact HB.out | apply below_alloc | apply pw_below_drewN | apply below_drew1 | refine below_set ?_ GE247.out) | exact HB.out)⟩
                      · rw [if_neg c20] at H
                        exact absurd H (by simp)
                    · rw [if_neg c19] at H
                      exact absurd H (by simp)
                  · replace c18 := Bool.eq_false_iff.mpr c18
                    subst c18
                    have H1 : (some (((x3_7 ++ a0_2) ++ (⟨#[63]⟩ : ByteArray)) ++ a0_3)) = some r := by rw [if_neg (show ¬ (false = true) by decide)] at H; exact H
                    clear H
                    have H := H1
                    clear H1
                    obtain rfl := Option.some.inj H
                    have hcz22_0 : wc.cell? ⟨gb247, 0, none⟩ = some (.string a0_0) := (blk_cell BK247.out 0).trans rfl
                    have hcz22_1 : wc.cell? ⟨gb247, 1, none⟩ = some (.string a0_1) := (blk_cell BK247.out 1).trans rfl
                    have hcz22_2 : wc.cell? ⟨gb247, 2, none⟩ = some (.string a0_2) := (blk_cell BK247.out 2).trans rfl
                    have hcz22_3 : wc.cell? ⟨gb247, 3, none⟩ = some (.string a0_3) := (blk_cell BK247.out 3).trans rfl
                    have hcz22_4 : wc.cell? ⟨gb247, 4, none⟩ = some (.string a0_4) := (blk_cell BK247.out 4).trans rfl
                    have hcz22_5 : wc.cell? ⟨gb247, 5, none⟩ = some (.bool a0_5) := (blk_cell BK247.out 5).trans rfl
                    have hcz22_6 : wc.cell? ⟨gb247, 6, none⟩ = some (.bool a0_6) := (blk_cell BK247.out 6).trans rfl
                    have hcz22_7 : wc.cell? ⟨gb247, 7, none⟩ = some (.bool true) := (blk_cell BK247.out 7).trans rfl
                    have hcz22_8 : wc.cell? ⟨gb247, 8, none⟩ = some (.bool false) := (blk_cell BK247.out 8).trans rfl
                    have hfz22_0 := blk_frozen BK247.out 0
                    have hfz22_1 := blk_frozen BK247.out 1
                    have hfz22_2 := blk_frozen BK247.out 2
                    have hfz22_3 := blk_frozen BK247.out 3
                    have hfz22_4 := blk_frozen BK247.out 4
                    have hfz22_5 := blk_frozen BK247.out 5
                    have hfz22_6 := blk_frozen BK247.out 6
                    have hfz22_7 := blk_frozen BK247.out 7
                    have hfz22_8 := blk_frozen BK247.out 8
                    go_wp2
                    go_ret
                    exact ⟨by first | rfl | (simp [errW_none, errW_some] <;> rfl) | (simp [*, errW_none, errW_some] <;> rfl), by repeat (first | (with_reducible first | exact HB.out | apply below_alloc | apply pw_below_drewN | apply below_drew1 | refine below_set ?_ GE247.out) | exact HB.out)⟩
                · rw [if_neg c17] at H
                  exact absurd H (by simp)
              · rw [if_neg c16] at H
                exact absurd H (by simp)
            · replace c15 := Bool.eq_false_iff.mpr c15
              subst c15
              have H1 : (if a0_8 = true then (if (x3_7 ++ a0_2).size + 1 ≤ 9223372036854775807 then (if ((x3_7 ++ a0_2) ++ (⟨#[35]⟩ : ByteArray)).size + a0_4.size ≤ 9223372036854775807 then (some (((x3_7 ++ a0_2) ++ (⟨#[35]⟩ : ByteArray)) ++ a0_4)) else (none)) else (none)) else (some (x3_7 ++ a0_2))) = some r := by rw [if_neg (show ¬ (false = true) by decide)] at H; exact H
              clear H
              have H := H1
              clear H1
              by_cases c23 : a0_8 = true
              · subst c23
                have H1 : (if (x3_7 ++ a0_2).size + 1 ≤ 9223372036854775807 then (if ((x3_7 ++ a0_2) ++ (⟨#[35]⟩ : ByteArray)).size + a0_4.size ≤ 9223372036854775807 then (some (((x3_7 ++ a0_2) ++ (⟨#[35]⟩ : ByteArray)) ++ a0_4)) else (none)) else (none)) = some r := by rw [if_pos rfl] at H; exact H
                clear H
                have H := H1
                clear H1
                by_cases c24 : (x3_7 ++ a0_2).size + 1 ≤ 9223372036854775807
                · rw [if_pos c24] at H
                  have c24b0 := eq_true c24
                  have c24b1 : decide ((x3_7 ++ a0_2).size + 1 ≤ 9223372036854775807) = true := decide_eq_true c24
                  try have c24b2 : (9223372036854775807 < (x3_7 ++ a0_2).size + 1) = False := eq_false (Nat.not_lt.2 c24)
                  try have c24b4 : (9223372036854775807 < x3_7.size + a0_2.size + 1) = False := (congrArg (fun n => 9223372036854775807 < n) (show x3_7.size + a0_2.size + 1 = (x3_7 ++ a0_2).size + 1 from by simp only [ByteArray.size_append] <;> rfl)).trans c24b2
                  by_cases c25 : ((x3_7 ++ a0_2) ++ (⟨#[35]⟩ : ByteArray)).size + a0_4.size ≤ 9223372036854775807
                  · rw [if_pos c25] at H
                    have c25b0 := eq_true c25
                    have c25b1 : decide (((x3_7 ++ a0_2) ++ (⟨#[35]⟩ : ByteArray)).size + a0_4.size ≤ 9223372036854775807) = true := decide_eq_true c25
                    try have c25b2 : (9223372036854775807 < ((x3_7 ++ a0_2) ++ (⟨#[35]⟩ : ByteArray)).size + a0_4.size) = False := eq_false (Nat.not_lt.2 c25)
                    try have c25b4 : (9223372036854775807 < x3_7.size + a0_2.size + 1 + a0_4.size) = False := (congrArg (fun n => 9223372036854775807 < n) (show x3_7.size + a0_2.size + 1 + a0_4.size = ((x3_7 ++ a0_2) ++ (⟨#[35]⟩ : ByteArray)).size + a0_4.size from by simp only [ByteArray.size_append] <;> rfl)).trans c25b2
                    obtain rfl := Option.some.inj H
                    have hcz26_0 : wc.cell? ⟨gb247, 0, none⟩ = some (.string a0_0) := (blk_cell BK247.out 0).trans rfl
                    have hcz26_1 : wc.cell? ⟨gb247, 1, none⟩ = some (.string a0_1) := (blk_cell BK247.out 1).trans rfl
                    have hcz26_2 : wc.cell? ⟨gb247, 2, none⟩ = some (.string a0_2) := (blk_cell BK247.out 2).trans rfl
                    have hcz26_3 : wc.cell? ⟨gb247, 3, none⟩ = some (.string a0_3) := (blk_cell BK247.out 3).trans rfl
                    have hcz26_4 : wc.cell? ⟨gb247, 4, none⟩ = some (.string a0_4) := (blk_cell BK247.out 4).trans rfl
                    have hcz26_5 : wc.cell? ⟨gb247, 5, none⟩ = some (.bool a0_5) := (blk_cell BK247.out 5).trans rfl
                    have hcz26_6 : wc.cell? ⟨gb247, 6, none⟩ = some (.bool a0_6) := (blk_cell BK247.out 6).trans rfl
                    have hcz26_7 : wc.cell? ⟨gb247, 7, none⟩ = some (.bool false) := (blk_cell BK247.out 7).trans rfl
                    have hcz26_8 : wc.cell? ⟨gb247, 8, none⟩ = some (.bool true) := (blk_cell BK247.out 8).trans rfl
                    have hfz26_0 := blk_frozen BK247.out 0
                    have hfz26_1 := blk_frozen BK247.out 1
                    have hfz26_2 := blk_frozen BK247.out 2
                    have hfz26_3 := blk_frozen BK247.out 3
                    have hfz26_4 := blk_frozen BK247.out 4
                    have hfz26_5 := blk_frozen BK247.out 5
                    have hfz26_6 := blk_frozen BK247.out 6
                    have hfz26_7 := blk_frozen BK247.out 7
                    have hfz26_8 := blk_frozen BK247.out 8
                    go_wp2
                    go_ret
                    exact ⟨by first | rfl | (simp [errW_none, errW_some] <;> rfl) | (simp [*, errW_none, errW_some] <;> rfl), by repeat (first | (with_reducible first | exact HB.out | apply below_alloc | apply pw_below_drewN | apply below_drew1 | refine below_set ?_ GE247.out) | exact HB.out)⟩
                  · rw [if_neg c25] at H
                    exact absurd H (by simp)
                · rw [if_neg c24] at H
                  exact absurd H (by simp)
              · replace c23 := Bool.eq_false_iff.mpr c23
                subst c23
                have H1 : (some (x3_7 ++ a0_2)) = some r := by rw [if_neg (show ¬ (false = true) by decide)] at H; exact H
                clear H
                have H := H1
                clear H1
                obtain rfl := Option.some.inj H
                have hcz27_0 : wc.cell? ⟨gb247, 0, none⟩ = some (.string a0_0) := (blk_cell BK247.out 0).trans rfl
                have hcz27_1 : wc.cell? ⟨gb247, 1, none⟩ = some (.string a0_1) := (blk_cell BK247.out 1).trans rfl
                have hcz27_2 : wc.cell? ⟨gb247, 2, none⟩ = some (.string a0_2) := (blk_cell BK247.out 2).trans rfl
                have hcz27_3 : wc.cell? ⟨gb247, 3, none⟩ = some (.string a0_3) := (blk_cell BK247.out 3).trans rfl
                have hcz27_4 : wc.cell? ⟨gb247, 4, none⟩ = some (.string a0_4) := (blk_cell BK247.out 4).trans rfl
                have hcz27_5 : wc.cell? ⟨gb247, 5, none⟩ = some (.bool a0_5) := (blk_cell BK247.out 5).trans rfl
                have hcz27_6 : wc.cell? ⟨gb247, 6, none⟩ = some (.bool a0_6) := (blk_cell BK247.out 6).trans rfl
                have hcz27_7 : wc.cell? ⟨gb247, 7, none⟩ = some (.bool false) := (blk_cell BK247.out 7).trans rfl
                have hcz27_8 : wc.cell? ⟨gb247, 8, none⟩ = some (.bool false) := (blk_cell BK247.out 8).trans rfl
                have hfz27_0 := blk_frozen BK247.out 0
                have hfz27_1 := blk_frozen BK247.out 1
                have hfz27_2 := blk_frozen BK247.out 2
                have hfz27_3 := blk_frozen BK247.out 3
                have hfz27_4 := blk_frozen BK247.out 4
                have hfz27_5 := blk_frozen BK247.out 5
                have hfz27_6 := blk_frozen BK247.out 6
                have hfz27_7 := blk_frozen BK247.out 7
                have hfz27_8 := blk_frozen BK247.out 8
                go_wp2
                go_ret
                exact ⟨by first | rfl | (simp [errW_none, errW_some] <;> rfl) | (simp [*, errW_none, errW_some] <;> rfl), by repeat (first | (with_reducible first | exact HB.out | apply below_alloc | apply pw_below_drewN | apply below_drew1 | refine below_set ?_ GE247.out) | exact HB.out)⟩
          · rw [if_neg c14] at H
            exact absurd H (by simp)

-- NOT PRINTED: function 4 (broadsheetlaw12_LocatorPrints)

-- NOT PRINTED: function 8 (broadsheetlaw12_LocatorBases)

/-! ### broadsheetlaw05_Pieces: function 21 -/
def broadsheetlaw05_Pieces.l0 : Nat → List Int → List ByteArray → ByteArray → Int → Option (ByteArray)
  | 0, _, _, _, _ => none
  | k + 1, x0, x1, x5, x6 => if x6 < (x0.length : Int) then (if x6 < 12 then (if 0 ≤ x6 then (if (x1.length : Int) = 0 then (none) else (if 0 ≤ (Int.tmod (wrap64 (rd x0 x6)) (x1.length : Int)) then (if (Int.tmod (wrap64 (rd x0 x6)) (x1.length : Int)) < (x1.length : Int) then (if x5.size + (rdOf ByteArray.empty x1 (Int.tmod (wrap64 (rd x0 x6)) (x1.length : Int))).size ≤ 9223372036854775807 then (broadsheetlaw05_Pieces.l0 k x0 x1 (x5 ++ (rdOf ByteArray.empty x1 (Int.tmod (wrap64 (rd x0 x6)) (x1.length : Int)))) (wrap64 (x6 + 1))) else (none)) else (none)) else (none))) else (none)) else (some x5)) else (some x5)
def broadsheetlaw05_Pieces.f (k : Nat) (l0 : List Int) (l1 : List ByteArray) : Option (ByteArray) := broadsheetlaw05_Pieces.l0 k l0 l1 (⟨#[]⟩ : ByteArray) 0
theorem broadsheetlaw05_Pieces.mono_l : ∀ k, (∀ y0 y1 y2 y3, LeO (broadsheetlaw05_Pieces.l0 k y0 y1 y2 y3) (broadsheetlaw05_Pieces.l0 (k + 1) y0 y1 y2 y3))
  | 0 => fun _ _ _ _ r h => by simp [broadsheetlaw05_Pieces.l0] at h
  | k + 1 => by
    have ih0 := broadsheetlaw05_Pieces.mono_l k
    · intro y0 y1 y2 y3
      unfold broadsheetlaw05_Pieces.l0
      repeat' first
      | (with_reducible exact ih0 _ _ _ _)
      | (with_reducible exact LeO.refl _)
      | (with_reducible exact LeO.none _)
      | (with_reducible refine LeO.ite ?_ ?_)
      | (with_reducible refine LeO.bind ?_ (fun _ => ?_))
      | exact ih0 _ _ _ _
      | exact LeO.none _
      | refine LeO.ite ?_ ?_
      | refine LeO.bind ?_ (fun _ => ?_)
theorem broadsheetlaw05_Pieces.mono : ∀ a0 a1 k, LeO (broadsheetlaw05_Pieces.f k a0 a1) (broadsheetlaw05_Pieces.f (k + 1) a0 a1) := by
  intro a0 a1 k
  have ih0 := broadsheetlaw05_Pieces.mono_l k
  unfold broadsheetlaw05_Pieces.f
  repeat' first
      | (with_reducible exact ih0 _ _ _ _)
      | (with_reducible exact LeO.refl _)
      | (with_reducible exact LeO.none _)
      | (with_reducible refine LeO.ite ?_ ?_)
      | (with_reducible refine LeO.bind ?_ (fun _ => ?_))
      | exact ih0 _ _ _ _
      | exact LeO.none _
      | refine LeO.ite ?_ ?_
      | refine LeO.bind ?_ (fun _ => ?_)
set_option maxHeartbeats 8000000 in
set_option maxRecDepth 100000 in
theorem broadsheetlaw05_Pieces.calls (k : Nat) (A0 : Option Addr) (c0 : Nat) (l0 : List Int) (A1 : Option Addr) (c1 : Nat) (l1 : List ByteArray) (r : ByteArray) (w : World) (hr0 : Kd.C (Kd.int .u8) w A0 l0.length l0) (hc0 : l0.length ≤ c0) (hr1 : Kd.C Kd.string w A1 l1.length l1) (hc1 : l1.length ≤ c1) (h : broadsheetlaw05_Pieces.f k l0 l1 = some r) :
    Calls Tryd.prog 21 #[.slice A0 l0.length c0, .slice A1 l1.length c1] w fun e w' => e = .returned (.string r) ∧ Drawn0 w w' := by
  have HR0 := Aside0.mk hr0
  have HC0 := Aside0.mk hc0
  clear hr0 hc0
  have HR1 := Aside0.mk hr1
  have HC1 := Aside0.mk hc1
  clear hr1 hc1
  have H : (broadsheetlaw05_Pieces.l0 k l0 l1 (⟨#[]⟩ : ByteArray) 0) = some r := h
  clear h
  have H' := Aside0.mk H
  clear H
  go_enter Tryd.func21, Tryd.ntmps21
  go_wp2
  go_loopg [5, 6] k (fun kq v5 v6 w' => ∃ (x5_1 : ByteArray) (x6_1 : Int), v5 = .string x5_1 ∧ v6 = .int .i64 x6_1 ∧ Aside0 (broadsheetlaw05_Pieces.l0 kq l0 l1 x5_1 x6_1 = some r) ∧ Aside0 (kq ≤ k) ∧ Drawn0 w w')
  case atStart => exact ⟨((⟨#[]⟩ : ByteArray)), (0), (by first | rfl | (simp; done) | (simp [*]; done) | (simp [xx_ne_nil, xx_eq_nil]; done) | (simp [*, xx_ne_nil, xx_eq_nil]; done)), (by first | rfl | (simp; done) | (simp [*]; done) | (simp [xx_ne_nil, xx_eq_nil]; done) | (simp [*, xx_ne_nil, xx_eq_nil]; done)), H', ⟨Nat.le_refl _⟩, by repeat (first | exact Drawn0.refl _ | apply Drawn0.step)⟩
  case round =>
    clear H'
    try clear c1
    try clear c2
    try clear p2
    obtain ⟨x5_1, x6_1, rfl, rfl, HA, HK1, ⟨m1, rfl⟩⟩ := hrel
    cases gk with
    | zero => exact absurd HA.out (by simp [broadsheetlaw05_Pieces.l0])
    | succ k1 =>
      have H := HA.out
      clear HA
      simp only [broadsheetlaw05_Pieces.l0] at H
      by_cases c3 : x6_1 < (l0.length : Int)
      · rw [if_pos c3] at H
        have c3b0 : decide (x6_1 < (l0.length : Int)) = true := decide_eq_true c3
        clear c3
        by_cases c4 : x6_1 < 12
        · rw [if_pos c4] at H
          have c4b0 : decide (x6_1 < 12) = true := decide_eq_true c4
          clear c4
          by_cases c5 : 0 ≤ x6_1
          · rw [if_pos c5] at H
            have c5b0 : decide (0 ≤ x6_1) = true := decide_eq_true c5
            clear c5
            by_cases c6 : (l1.length : Int) = 0
            · rw [if_pos c6] at H
              exact absurd H (by simp)
            · rw [if_neg c6] at H
              have c6b0 : ((l1.length : Int) == 0) = false := beq_eq_false_iff_ne.mpr c6
              have c6b1 : ((l1.length : Int) != 0) = true := bne_iff_ne.mpr c6
              have c6b2 : ¬ (l1 = []) := fun h_ => c6 (by rw [h_]; rfl)
              obtain ⟨ji7, hji7⟩ : ∃ j_ : Int, (Int.tmod (wrap64 (rd l0 x6_1)) (l1.length : Int)) = j_ := ⟨_, rfl⟩
              replace H : (if 0 ≤ (ji7) then (if (ji7) < (l1.length : Int) then (if x5_1.size + (rdOf ByteArray.empty l1 (ji7)).size ≤ 9223372036854775807 then (broadsheetlaw05_Pieces.l0 k1 l0 l1 (x5_1 ++ (rdOf ByteArray.empty l1 (ji7))) (wrap64 (x6_1 + 1))) else (none)) else (none)) else (none)) = some r := by first | (rw [hji7] at H; exact H) | (simp only [hji7] at H ⊢; exact H)
              by_cases c8 : 0 ≤ (ji7)
              · rw [if_pos c8] at H
                have c8b0 : decide (0 ≤ (ji7)) = true := decide_eq_true c8
                clear c8
                by_cases c9 : (ji7) < (l1.length : Int)
                · rw [if_pos c9] at H
                  have c9b0 : decide ((ji7) < (l1.length : Int)) = true := decide_eq_true c9
                  clear c9
                  by_cases c10 : x5_1.size + (rdOf ByteArray.empty l1 (ji7)).size ≤ 9223372036854775807
                  · rw [if_pos c10] at H
                    have c10b0 := eq_true c10
                    have c10b1 : decide (x5_1.size + (rdOf ByteArray.empty l1 (ji7)).size ≤ 9223372036854775807) = true := decide_eq_true c10
                    try have c10b2 : (9223372036854775807 < x5_1.size + (rdOf ByteArray.empty l1 (ji7)).size) = False := eq_false (Nat.not_lt.2 c10)
                    have H' := Aside0.mk H
                    clear H
                    have p254 : 0 ≤ (x6_1 : Int) := of_decide_eq_true (by first | (with_reducible assumption) | assumption)
                    have q254 : x6_1 < (l0.length : Int) := of_decide_eq_true (by first | (with_reducible assumption) | assumption)
                    obtain ⟨ad254, e254, hx254_0⟩ := Kd.at_int HR0.out x6_1 p254 q254
                    cases e254
                    replace p254 := eq_true p254
                    replace q254 := eq_true q254
                    have p255 : 0 ≤ ((ji7) : Int) := of_decide_eq_true (by first | (with_reducible assumption) | assumption)
                    have q255 : (ji7) < (l1.length : Int) := of_decide_eq_true (by first | (with_reducible assumption) | assumption)
                    obtain ⟨ad255, e255, hx255_0⟩ := Kd.at_string HR1.out (ji7) p255 q255
                    cases e255
                    replace p255 := eq_true p255
                    replace q255 := eq_true q255
                    go_wp2
                    go_roundg k1
                    case measure => have := HK1.out; omega
                    case rel => exact ⟨(x5_1 ++ (rdOf ByteArray.empty l1 (ji7))), (wrap64 (x6_1 + 1)), (by first | rfl | (simp; done) | (simp only [← hji7] <;> (first | rfl | simp)) | (simp [*]; done) | (simp [xx_ne_nil, xx_eq_nil]; done) | (simp [*, xx_ne_nil, xx_eq_nil]; done)), (by first | rfl | (simp; done) | (simp [*]; done) | (simp [xx_ne_nil, xx_eq_nil]; done) | (simp [*, xx_ne_nil, xx_eq_nil]; done)), H', ⟨by have := HK1.out; omega⟩, by repeat (first | exact Drawn0.refl _ | apply Drawn0.step)⟩
                  · rw [if_neg c10] at H
                    exact absurd H (by simp)
                · rw [if_neg c9] at H
                  exact absurd H (by simp)
              · rw [if_neg c8] at H
                exact absurd H (by simp)
          · rw [if_neg c5] at H
            exact absurd H (by simp)
        · rw [if_neg c4] at H
          have c4b0 : decide (x6_1 < 12) = false := decide_eq_false c4
          clear c4
          obtain rfl := Option.some.inj H
          go_wp2
          go_ret
          exact ⟨by first | rfl | (simp; done) | (simp [*]; done) | (simp [xx_ne_nil, xx_eq_nil]; done) | (simp [*, xx_ne_nil, xx_eq_nil]; done), by repeat (first | exact Drawn0.refl _ | apply Drawn0.step)⟩
      · rw [if_neg c3] at H
        have c3b0 : decide (x6_1 < (l0.length : Int)) = false := decide_eq_false c3
        clear c3
        obtain rfl := Option.some.inj H
        go_wp2
        go_ret
        exact ⟨by first | rfl | (simp; done) | (simp [*]; done) | (simp [xx_ne_nil, xx_eq_nil]; done) | (simp [*, xx_ne_nil, xx_eq_nil]; done), by repeat (first | exact Drawn0.refl _ | apply Drawn0.step)⟩

-- NOT PRINTED: function 9 (broadsheetlaw12_LocatorSmall)

end Go.Proofs.YtldancekpigkaaaDoor.Pl
