-- Printed by xprint.py, this session's program over the kit's printer, out of the translation. Not trusted: Lean checks it.
import Derived.Test.YtidjihhklmfaiaaDoorPx0
import Derived.Test.YtidjihhklmfaiaaDoorPx1
import Derived.Test.YtidjihhklmfaiaaDoorPx2
import Derived.Test.YtidjihhklmfaiaaDoorPx3
import Derived.Test.YtidjihhklmfaiaaDoorXExtP
namespace Go.Proofs.YtidjihhklmfaiaaDoor.Px
open Go.RowKit Go.Proofs.YtidjihhklmfaiaaDoorW.PrintWords Go.Proofs.YtidjihhklmfaiaaDoorW.PrintLast Go.Proofs.YtidjihhklmfaiaaDoorW.PrintMore
attribute [local go_sem] max2_int min2_int max_two min_two max_three min_three max_four min_four   -- for this text's walks alone
open Go.Proofs.YtidjihhklmfaiaaDoor.X
set_option linter.unusedVariables false
set_option linter.unusedSimpArgs false

attribute [local go_sem high] eqA30
/-! ### broadsheetlaw08_PrefixBinds: function 6 -/
mutual
def broadsheetlaw08_PrefixBinds.j0 : Nat → List (S30) → ByteArray → Bool → Bool → Option (Bool)
  | 0, _, _, _, _ => none
  | k + 1, x0, x1, x5, x35 => if x35 = true then (some x5) else (broadsheetlaw08_PrefixBinds.l0 k x0 x1 x5 0)
def broadsheetlaw08_PrefixBinds.l0 : Nat → List (S30) → ByteArray → Bool → Int → Option (Bool)
  | 0, _, _, _, _ => none
  | k + 1, x0, x1, x5, x6 => if x6 < (x0.length : Int) then (if 0 ≤ x6 then (if (((rd_T30 x0 x6).f0).size : Int) > 300 then (some x5) else (broadsheetlaw08_PrefixBinds.l0 k x0 x1 x5 (wrap64 (x6 + 1)))) else (none)) else ((prefix_Declare.f k x0).bind fun bt264 => (if bt264.2.2 = 0 then (if (wrap64 ((bt264.1.length : Int) + (bt264.2.1.length : Int))) = (x0.length : Int) then (broadsheetlaw08_PrefixBinds.l1 k x0 x1 x5 bt264.1 bt264.2.1 0 0) else (some false)) else (if x5 = true then (some ((wrap64 ((bt264.1.length : Int) + (bt264.2.1.length : Int))) == 0)) else (some false))))
def broadsheetlaw08_PrefixBinds.l1 : Nat → List (S30) → ByteArray → Bool → List (S30) → List (S30) → Int → Int → Option (Bool)
  | 0, _, _, _, _, _, _, _ => none
  | k + 1, x0, x1, x5, x7, x8, x10, x11 => if x11 < (x0.length : Int) then (broadsheetlaw08_PrefixBinds.j3 k x0 x1 x5 x7 x8 x10 x11 (decide (x10 < (x8.length : Int)))) else (broadsheetlaw08_PrefixBinds.j3 k x0 x1 x5 x7 x8 x10 x11 false)
def broadsheetlaw08_PrefixBinds.j3 : Nat → List (S30) → ByteArray → Bool → List (S30) → List (S30) → Int → Int → Bool → Option (Bool)
  | 0, _, _, _, _, _, _, _, _ => none
  | k + 1, x0, x1, x5, x7, x8, x10, x11, x85 => if x85 = true then (if 0 ≤ x11 then (if x11 < (x0.length : Int) then (if 0 ≤ x10 then (if x10 < (x8.length : Int) then (if ((((rd_T30 x0 x11).f0).toList) == (((rd_T30 x8 x10).f0).toList) && ((((rd_T30 x0 x11).f1).toList) == (((rd_T30 x8 x10).f1).toList))) = true then (broadsheetlaw08_PrefixBinds.l1 k x0 x1 x5 x7 x8 (wrap64 (x10 + 1)) (wrap64 (x11 + 1))) else (broadsheetlaw08_PrefixBinds.l1 k x0 x1 x5 x7 x8 x10 (wrap64 (x11 + 1)))) else (none)) else (none)) else (none)) else (none)) else (if x10 = (x8.length : Int) then ((prefix_Split.f k x1).bind fun bt273 => (broadsheetlaw08_PrefixBinds.l2 k x1 x5 x7 bt273.2.2 0)) else (some false))
def broadsheetlaw08_PrefixBinds.l2 : Nat → ByteArray → Bool → List (S30) → Int → Int → Option (Bool)
  | 0, _, _, _, _, _ => none
  | k + 1, x1, x5, x7, x14, x15 => if x15 < (x7.length : Int) then (broadsheetlaw08_PrefixBinds.j5 k x1 x5 x7 x14 x15 (x14 == 0)) else (broadsheetlaw08_PrefixBinds.j5 k x1 x5 x7 x14 x15 false)
def broadsheetlaw08_PrefixBinds.j5 : Nat → ByteArray → Bool → List (S30) → Int → Int → Bool → Option (Bool)
  | 0, _, _, _, _, _, _ => none
  | k + 1, x1, x5, x7, x14, x15, x116 => if x116 = true then (broadsheetlaw08_PrefixBinds.l3 k x1 x5 x7 x14 x15 true (wrap64 (x15 + 1))) else (some x5)
def broadsheetlaw08_PrefixBinds.l3 : Nat → ByteArray → Bool → List (S30) → Int → Int → Bool → Int → Option (Bool)
  | 0, _, _, _, _, _, _, _ => none
  | k + 1, x1, x5, x7, x14, x15, x16, x17 => if x17 < (x7.length : Int) then (if x16 = true then (if 0 ≤ x17 then (if 0 ≤ x15 then (if x15 < (x7.length : Int) then (broadsheetlaw08_PrefixBinds.l3 k x1 x5 x7 x14 x15 (((rd_T30 x7 x17).f0).toList != ((rd_T30 x7 x15).f0).toList) (wrap64 (x17 + 1))) else (none)) else (none)) else (none)) else (broadsheetlaw08_PrefixBinds.l3 k x1 x5 x7 x14 x15 false (wrap64 (x17 + 1)))) else (if 0 ≤ x15 then (if x15 < (x7.length : Int) then (if ((rd_T30 x7 x15).f0).toList = ([] : List UInt8) then (broadsheetlaw08_PrefixBinds.j7 k x1 x5 x7 x14 x15 x16 x1) else (if ((rd_T30 x7 x15).f0).size + 1 ≤ 9223372036854775807 then (if (((rd_T30 x7 x15).f0) ++ (⟨#[58]⟩ : ByteArray)).size + x1.size ≤ 9223372036854775807 then (broadsheetlaw08_PrefixBinds.j7 k x1 x5 x7 x14 x15 x16 ((((rd_T30 x7 x15).f0) ++ (⟨#[58]⟩ : ByteArray)) ++ x1)) else (none)) else (none))) else (none)) else (none))
def broadsheetlaw08_PrefixBinds.j7 : Nat → ByteArray → Bool → List (S30) → Int → Int → Bool → ByteArray → Option (Bool)
  | 0, _, _, _, _, _, _, _ => none
  | k + 1, x1, x5, x7, x14, x15, x16, x18 => (prefix_Resolve.f k x7 x18 false).bind fun bt280 => ((prefix_Split.f k x18).bind fun bt283 => (if x16 = true then (if bt283.2.2 = 0 then (if bt280.2.1.toList = x1.toList then (if bt280.2.2 = 0 then (if 0 ≤ x15 then (if x15 < (x7.length : Int) then (if bt280.1.toList = ((rd_T30 x7 x15).f1).toList then (broadsheetlaw08_PrefixBinds.l2 k x1 x5 x7 x14 (wrap64 (x15 + 1))) else (some false)) else (none)) else (none)) else (some false)) else (broadsheetlaw08_PrefixBinds.l2 k x1 x5 x7 x14 (wrap64 (x15 + 1)))) else (broadsheetlaw08_PrefixBinds.l2 k x1 x5 x7 x14 (wrap64 (x15 + 1)))) else (broadsheetlaw08_PrefixBinds.l2 k x1 x5 x7 x14 (wrap64 (x15 + 1)))))
end
def broadsheetlaw08_PrefixBinds.f (k : Nat) (l0 : List (S30)) (a1 : ByteArray) : Option (Bool) := (broadsheetlaw08_awake.f k).bind fun t262 => (if t262 = true then (if (l0.length : Int) > 50 then (broadsheetlaw08_PrefixBinds.j0 k l0 a1 t262 true) else (broadsheetlaw08_PrefixBinds.j0 k l0 a1 t262 (decide ((a1.size : Int) > 300)))) else (some false))
theorem broadsheetlaw08_PrefixBinds.mono_l : ∀ k, (∀ y0 y1 y2 y3, LeO (broadsheetlaw08_PrefixBinds.j0 k y0 y1 y2 y3) (broadsheetlaw08_PrefixBinds.j0 (k + 1) y0 y1 y2 y3)) ∧ (∀ y0 y1 y2 y3, LeO (broadsheetlaw08_PrefixBinds.l0 k y0 y1 y2 y3) (broadsheetlaw08_PrefixBinds.l0 (k + 1) y0 y1 y2 y3)) ∧ (∀ y0 y1 y2 y3 y4 y5 y6, LeO (broadsheetlaw08_PrefixBinds.l1 k y0 y1 y2 y3 y4 y5 y6) (broadsheetlaw08_PrefixBinds.l1 (k + 1) y0 y1 y2 y3 y4 y5 y6)) ∧ (∀ y0 y1 y2 y3 y4 y5 y6 y7, LeO (broadsheetlaw08_PrefixBinds.j3 k y0 y1 y2 y3 y4 y5 y6 y7) (broadsheetlaw08_PrefixBinds.j3 (k + 1) y0 y1 y2 y3 y4 y5 y6 y7)) ∧ (∀ y0 y1 y2 y3 y4, LeO (broadsheetlaw08_PrefixBinds.l2 k y0 y1 y2 y3 y4) (broadsheetlaw08_PrefixBinds.l2 (k + 1) y0 y1 y2 y3 y4)) ∧ (∀ y0 y1 y2 y3 y4 y5, LeO (broadsheetlaw08_PrefixBinds.j5 k y0 y1 y2 y3 y4 y5) (broadsheetlaw08_PrefixBinds.j5 (k + 1) y0 y1 y2 y3 y4 y5)) ∧ (∀ y0 y1 y2 y3 y4 y5 y6, LeO (broadsheetlaw08_PrefixBinds.l3 k y0 y1 y2 y3 y4 y5 y6) (broadsheetlaw08_PrefixBinds.l3 (k + 1) y0 y1 y2 y3 y4 y5 y6)) ∧ (∀ y0 y1 y2 y3 y4 y5 y6, LeO (broadsheetlaw08_PrefixBinds.j7 k y0 y1 y2 y3 y4 y5 y6) (broadsheetlaw08_PrefixBinds.j7 (k + 1) y0 y1 y2 y3 y4 y5 y6))
  | 0 => ⟨fun _ _ _ _ r h => by simp [broadsheetlaw08_PrefixBinds.j0] at h, fun _ _ _ _ r h => by simp [broadsheetlaw08_PrefixBinds.l0] at h, fun _ _ _ _ _ _ _ r h => by simp [broadsheetlaw08_PrefixBinds.l1] at h, fun _ _ _ _ _ _ _ _ r h => by simp [broadsheetlaw08_PrefixBinds.j3] at h, fun _ _ _ _ _ r h => by simp [broadsheetlaw08_PrefixBinds.l2] at h, fun _ _ _ _ _ _ r h => by simp [broadsheetlaw08_PrefixBinds.j5] at h, fun _ _ _ _ _ _ _ r h => by simp [broadsheetlaw08_PrefixBinds.l3] at h, fun _ _ _ _ _ _ _ r h => by simp [broadsheetlaw08_PrefixBinds.j7] at h⟩
  | k + 1 => by
    obtain ⟨ih0, ih1, ih2, ih3, ih4, ih5, ih6, ih7⟩ := broadsheetlaw08_PrefixBinds.mono_l k
    refine ⟨?_, ?_, ?_, ?_, ?_, ?_, ?_, ?_⟩
    · intro y0 y1 y2 y3
      unfold broadsheetlaw08_PrefixBinds.j0
      repeat' first
      | (with_reducible exact ih0 _ _ _ _)
      | (with_reducible exact ih1 _ _ _ _)
      | (with_reducible exact ih2 _ _ _ _ _ _ _)
      | (with_reducible exact ih3 _ _ _ _ _ _ _ _)
      | (with_reducible exact ih4 _ _ _ _ _)
      | (with_reducible exact ih5 _ _ _ _ _ _)
      | (with_reducible exact ih6 _ _ _ _ _ _ _)
      | (with_reducible exact ih7 _ _ _ _ _ _ _)
      | (with_reducible exact broadsheetlaw08_awake.mono _)
      | (with_reducible exact prefix_Declare.mono _ _)
      | (with_reducible exact prefix_Resolve.mono _ _ _ _)
      | (with_reducible exact prefix_Split.mono _ _)
      | (with_reducible exact LeO.refl _)
      | (with_reducible exact LeO.none _)
      | (with_reducible refine LeO.ite ?_ ?_)
      | (with_reducible refine LeO.bind ?_ (fun _ => ?_))
      | exact ih0 _ _ _ _
      | exact ih1 _ _ _ _
      | exact ih2 _ _ _ _ _ _ _
      | exact ih3 _ _ _ _ _ _ _ _
      | exact ih4 _ _ _ _ _
      | exact ih5 _ _ _ _ _ _
      | exact ih6 _ _ _ _ _ _ _
      | exact ih7 _ _ _ _ _ _ _
      | exact broadsheetlaw08_awake.mono _
      | exact prefix_Declare.mono _ _
      | exact prefix_Resolve.mono _ _ _ _
      | exact prefix_Split.mono _ _
      | exact LeO.none _
      | refine LeO.ite ?_ ?_
      | refine LeO.bind ?_ (fun _ => ?_)
    · intro y0 y1 y2 y3
      unfold broadsheetlaw08_PrefixBinds.l0
      repeat' first
      | (with_reducible exact ih0 _ _ _ _)
      | (with_reducible exact ih1 _ _ _ _)
      | (with_reducible exact ih2 _ _ _ _ _ _ _)
      | (with_reducible exact ih3 _ _ _ _ _ _ _ _)
      | (with_reducible exact ih4 _ _ _ _ _)
      | (with_reducible exact ih5 _ _ _ _ _ _)
      | (with_reducible exact ih6 _ _ _ _ _ _ _)
      | (with_reducible exact ih7 _ _ _ _ _ _ _)
      | (with_reducible exact broadsheetlaw08_awake.mono _)
      | (with_reducible exact prefix_Declare.mono _ _)
      | (with_reducible exact prefix_Resolve.mono _ _ _ _)
      | (with_reducible exact prefix_Split.mono _ _)
      | (with_reducible exact LeO.refl _)
      | (with_reducible exact LeO.none _)
      | (with_reducible refine LeO.ite ?_ ?_)
      | (with_reducible refine LeO.bind ?_ (fun _ => ?_))
      | exact ih0 _ _ _ _
      | exact ih1 _ _ _ _
      | exact ih2 _ _ _ _ _ _ _
      | exact ih3 _ _ _ _ _ _ _ _
      | exact ih4 _ _ _ _ _
      | exact ih5 _ _ _ _ _ _
      | exact ih6 _ _ _ _ _ _ _
      | exact ih7 _ _ _ _ _ _ _
      | exact broadsheetlaw08_awake.mono _
      | exact prefix_Declare.mono _ _
      | exact prefix_Resolve.mono _ _ _ _
      | exact prefix_Split.mono _ _
      | exact LeO.none _
      | refine LeO.ite ?_ ?_
      | refine LeO.bind ?_ (fun _ => ?_)
    · intro y0 y1 y2 y3 y4 y5 y6
      unfold broadsheetlaw08_PrefixBinds.l1
      repeat' first
      | (with_reducible exact ih0 _ _ _ _)
      | (with_reducible exact ih1 _ _ _ _)
      | (with_reducible exact ih2 _ _ _ _ _ _ _)
      | (with_reducible exact ih3 _ _ _ _ _ _ _ _)
      | (with_reducible exact ih4 _ _ _ _ _)
      | (with_reducible exact ih5 _ _ _ _ _ _)
      | (with_reducible exact ih6 _ _ _ _ _ _ _)
      | (with_reducible exact ih7 _ _ _ _ _ _ _)
      | (with_reducible exact broadsheetlaw08_awake.mono _)
      | (with_reducible exact prefix_Declare.mono _ _)
      | (with_reducible exact prefix_Resolve.mono _ _ _ _)
      | (with_reducible exact prefix_Split.mono _ _)
      | (with_reducible exact LeO.refl _)
      | (with_reducible exact LeO.none _)
      | (with_reducible refine LeO.ite ?_ ?_)
      | (with_reducible refine LeO.bind ?_ (fun _ => ?_))
      | exact ih0 _ _ _ _
      | exact ih1 _ _ _ _
      | exact ih2 _ _ _ _ _ _ _
      | exact ih3 _ _ _ _ _ _ _ _
      | exact ih4 _ _ _ _ _
      | exact ih5 _ _ _ _ _ _
      | exact ih6 _ _ _ _ _ _ _
      | exact ih7 _ _ _ _ _ _ _
      | exact broadsheetlaw08_awake.mono _
      | exact prefix_Declare.mono _ _
      | exact prefix_Resolve.mono _ _ _ _
      | exact prefix_Split.mono _ _
      | exact LeO.none _
      | refine LeO.ite ?_ ?_
      | refine LeO.bind ?_ (fun _ => ?_)
    · intro y0 y1 y2 y3 y4 y5 y6 y7
      unfold broadsheetlaw08_PrefixBinds.j3
      repeat' first
      | (with_reducible exact ih0 _ _ _ _)
      | (with_reducible exact ih1 _ _ _ _)
      | (with_reducible exact ih2 _ _ _ _ _ _ _)
      | (with_reducible exact ih3 _ _ _ _ _ _ _ _)
      | (with_reducible exact ih4 _ _ _ _ _)
      | (with_reducible exact ih5 _ _ _ _ _ _)
      | (with_reducible exact ih6 _ _ _ _ _ _ _)
      | (with_reducible exact ih7 _ _ _ _ _ _ _)
      | (with_reducible exact broadsheetlaw08_awake.mono _)
      | (with_reducible exact prefix_Declare.mono _ _)
      | (with_reducible exact prefix_Resolve.mono _ _ _ _)
      | (with_reducible exact prefix_Split.mono _ _)
      | (with_reducible exact LeO.refl _)
      | (with_reducible exact LeO.none _)
      | (with_reducible refine LeO.ite ?_ ?_)
      | (with_reducible refine LeO.bind ?_ (fun _ => ?_))
      | exact ih0 _ _ _ _
      | exact ih1 _ _ _ _
      | exact ih2 _ _ _ _ _ _ _
      | exact ih3 _ _ _ _ _ _ _ _
      | exact ih4 _ _ _ _ _
      | exact ih5 _ _ _ _ _ _
      | exact ih6 _ _ _ _ _ _ _
      | exact ih7 _ _ _ _ _ _ _
      | exact broadsheetlaw08_awake.mono _
      | exact prefix_Declare.mono _ _
      | exact prefix_Resolve.mono _ _ _ _
      | exact prefix_Split.mono _ _
      | exact LeO.none _
      | refine LeO.ite ?_ ?_
      | refine LeO.bind ?_ (fun _ => ?_)
    · intro y0 y1 y2 y3 y4
      unfold broadsheetlaw08_PrefixBinds.l2
      repeat' first
      | (with_reducible exact ih0 _ _ _ _)
      | (with_reducible exact ih1 _ _ _ _)
      | (with_reducible exact ih2 _ _ _ _ _ _ _)
      | (with_reducible exact ih3 _ _ _ _ _ _ _ _)
      | (with_reducible exact ih4 _ _ _ _ _)
      | (with_reducible exact ih5 _ _ _ _ _ _)
      | (with_reducible exact ih6 _ _ _ _ _ _ _)
      | (with_reducible exact ih7 _ _ _ _ _ _ _)
      | (with_reducible exact broadsheetlaw08_awake.mono _)
      | (with_reducible exact prefix_Declare.mono _ _)
      | (with_reducible exact prefix_Resolve.mono _ _ _ _)
      | (with_reducible exact prefix_Split.mono _ _)
      | (with_reducible exact LeO.refl _)
      | (with_reducible exact LeO.none _)
      | (with_reducible refine LeO.ite ?_ ?_)
      | (with_reducible refine LeO.bind ?_ (fun _ => ?_))
      | exact ih0 _ _ _ _
      | exact ih1 _ _ _ _
      | exact ih2 _ _ _ _ _ _ _
      | exact ih3 _ _ _ _ _ _ _ _
      | exact ih4 _ _ _ _ _
      | exact ih5 _ _ _ _ _ _
      | exact ih6 _ _ _ _ _ _ _
      | exact ih7 _ _ _ _ _ _ _
      | exact broadsheetlaw08_awake.mono _
      | exact prefix_Declare.mono _ _
      | exact prefix_Resolve.mono _ _ _ _
      | exact prefix_Split.mono _ _
      | exact LeO.none _
      | refine LeO.ite ?_ ?_
      | refine LeO.bind ?_ (fun _ => ?_)
    · intro y0 y1 y2 y3 y4 y5
      unfold broadsheetlaw08_PrefixBinds.j5
      repeat' first
      | (with_reducible exact ih0 _ _ _ _)
      | (with_reducible exact ih1 _ _ _ _)
      | (with_reducible exact ih2 _ _ _ _ _ _ _)
      | (with_reducible exact ih3 _ _ _ _ _ _ _ _)
      | (with_reducible exact ih4 _ _ _ _ _)
      | (with_reducible exact ih5 _ _ _ _ _ _)
      | (with_reducible exact ih6 _ _ _ _ _ _ _)
      | (with_reducible exact ih7 _ _ _ _ _ _ _)
      | (with_reducible exact broadsheetlaw08_awake.mono _)
      | (with_reducible exact prefix_Declare.mono _ _)
      | (with_reducible exact prefix_Resolve.mono _ _ _ _)
      | (with_reducible exact prefix_Split.mono _ _)
      | (with_reducible exact LeO.refl _)
      | (with_reducible exact LeO.none _)
      | (with_reducible refine LeO.ite ?_ ?_)
      | (with_reducible refine LeO.bind ?_ (fun _ => ?_))
      | exact ih0 _ _ _ _
      | exact ih1 _ _ _ _
      | exact ih2 _ _ _ _ _ _ _
      | exact ih3 _ _ _ _ _ _ _ _
      | exact ih4 _ _ _ _ _
      | exact ih5 _ _ _ _ _ _
      | exact ih6 _ _ _ _ _ _ _
      | exact ih7 _ _ _ _ _ _ _
      | exact broadsheetlaw08_awake.mono _
      | exact prefix_Declare.mono _ _
      | exact prefix_Resolve.mono _ _ _ _
      | exact prefix_Split.mono _ _
      | exact LeO.none _
      | refine LeO.ite ?_ ?_
      | refine LeO.bind ?_ (fun _ => ?_)
    · intro y0 y1 y2 y3 y4 y5 y6
      unfold broadsheetlaw08_PrefixBinds.l3
      repeat' first
      | (with_reducible exact ih0 _ _ _ _)
      | (with_reducible exact ih1 _ _ _ _)
      | (with_reducible exact ih2 _ _ _ _ _ _ _)
      | (with_reducible exact ih3 _ _ _ _ _ _ _ _)
      | (with_reducible exact ih4 _ _ _ _ _)
      | (with_reducible exact ih5 _ _ _ _ _ _)
      | (with_reducible exact ih6 _ _ _ _ _ _ _)
      | (with_reducible exact ih7 _ _ _ _ _ _ _)
      | (with_reducible exact broadsheetlaw08_awake.mono _)
      | (with_reducible exact prefix_Declare.mono _ _)
      | (with_reducible exact prefix_Resolve.mono _ _ _ _)
      | (with_reducible exact prefix_Split.mono _ _)
      | (with_reducible exact LeO.refl _)
      | (with_reducible exact LeO.none _)
      | (with_reducible refine LeO.ite ?_ ?_)
      | (with_reducible refine LeO.bind ?_ (fun _ => ?_))
      | exact ih0 _ _ _ _
      | exact ih1 _ _ _ _
      | exact ih2 _ _ _ _ _ _ _
      | exact ih3 _ _ _ _ _ _ _ _
      | exact ih4 _ _ _ _ _
      | exact ih5 _ _ _ _ _ _
      | exact ih6 _ _ _ _ _ _ _
      | exact ih7 _ _ _ _ _ _ _
      | exact broadsheetlaw08_awake.mono _
      | exact prefix_Declare.mono _ _
      | exact prefix_Resolve.mono _ _ _ _
      | exact prefix_Split.mono _ _
      | exact LeO.none _
      | refine LeO.ite ?_ ?_
      | refine LeO.bind ?_ (fun _ => ?_)
    · intro y0 y1 y2 y3 y4 y5 y6
      unfold broadsheetlaw08_PrefixBinds.j7
      repeat' first
      | (with_reducible exact ih0 _ _ _ _)
      | (with_reducible exact ih1 _ _ _ _)
      | (with_reducible exact ih2 _ _ _ _ _ _ _)
      | (with_reducible exact ih3 _ _ _ _ _ _ _ _)
      | (with_reducible exact ih4 _ _ _ _ _)
      | (with_reducible exact ih5 _ _ _ _ _ _)
      | (with_reducible exact ih6 _ _ _ _ _ _ _)
      | (with_reducible exact ih7 _ _ _ _ _ _ _)
      | (with_reducible exact broadsheetlaw08_awake.mono _)
      | (with_reducible exact prefix_Declare.mono _ _)
      | (with_reducible exact prefix_Resolve.mono _ _ _ _)
      | (with_reducible exact prefix_Split.mono _ _)
      | (with_reducible exact LeO.refl _)
      | (with_reducible exact LeO.none _)
      | (with_reducible refine LeO.ite ?_ ?_)
      | (with_reducible refine LeO.bind ?_ (fun _ => ?_))
      | exact ih0 _ _ _ _
      | exact ih1 _ _ _ _
      | exact ih2 _ _ _ _ _ _ _
      | exact ih3 _ _ _ _ _ _ _ _
      | exact ih4 _ _ _ _ _
      | exact ih5 _ _ _ _ _ _
      | exact ih6 _ _ _ _ _ _ _
      | exact ih7 _ _ _ _ _ _ _
      | exact broadsheetlaw08_awake.mono _
      | exact prefix_Declare.mono _ _
      | exact prefix_Resolve.mono _ _ _ _
      | exact prefix_Split.mono _ _
      | exact LeO.none _
      | refine LeO.ite ?_ ?_
      | refine LeO.bind ?_ (fun _ => ?_)
theorem broadsheetlaw08_PrefixBinds.mono : ∀ a0 a1 k, LeO (broadsheetlaw08_PrefixBinds.f k a0 a1) (broadsheetlaw08_PrefixBinds.f (k + 1) a0 a1) := by
  intro a0 a1 k
  obtain ⟨ih0, ih1, ih2, ih3, ih4, ih5, ih6, ih7⟩ := broadsheetlaw08_PrefixBinds.mono_l k
  unfold broadsheetlaw08_PrefixBinds.f
  repeat' first
      | (with_reducible exact ih0 _ _ _ _)
      | (with_reducible exact ih1 _ _ _ _)
      | (with_reducible exact ih2 _ _ _ _ _ _ _)
      | (with_reducible exact ih3 _ _ _ _ _ _ _ _)
      | (with_reducible exact ih4 _ _ _ _ _)
      | (with_reducible exact ih5 _ _ _ _ _ _)
      | (with_reducible exact ih6 _ _ _ _ _ _ _)
      | (with_reducible exact ih7 _ _ _ _ _ _ _)
      | (with_reducible exact broadsheetlaw08_awake.mono _)
      | (with_reducible exact prefix_Declare.mono _ _)
      | (with_reducible exact prefix_Resolve.mono _ _ _ _)
      | (with_reducible exact prefix_Split.mono _ _)
      | (with_reducible exact LeO.refl _)
      | (with_reducible exact LeO.none _)
      | (with_reducible refine LeO.ite ?_ ?_)
      | (with_reducible refine LeO.bind ?_ (fun _ => ?_))
      | exact ih0 _ _ _ _
      | exact ih1 _ _ _ _
      | exact ih2 _ _ _ _ _ _ _
      | exact ih3 _ _ _ _ _ _ _ _
      | exact ih4 _ _ _ _ _
      | exact ih5 _ _ _ _ _ _
      | exact ih6 _ _ _ _ _ _ _
      | exact ih7 _ _ _ _ _ _ _
      | exact broadsheetlaw08_awake.mono _
      | exact prefix_Declare.mono _ _
      | exact prefix_Resolve.mono _ _ _ _
      | exact prefix_Split.mono _ _
      | exact LeO.none _
      | refine LeO.ite ?_ ?_
      | refine LeO.bind ?_ (fun _ => ?_)
set_option maxHeartbeats 8000000 in
set_option maxRecDepth 100000 in
theorem broadsheetlaw08_PrefixBinds.calls (k : Nat) (A0 : Option Addr) (c0 : Nat) (l0 : List (S30)) (a1 : ByteArray) (r : Bool) (w : World) (hG : Glob w) (hr0 : Kd.C k30 w A0 l0.length l0) (hc0 : l0.length ≤ c0) (h : broadsheetlaw08_PrefixBinds.f k l0 a1 = some r) :
    Calls Tryd.prog 6 #[.slice A0 l0.length c0, .string a1] w fun e w' => e = .returned (.bool r) ∧ Below w.heap.size w w' := by
  have HG := Aside0.mk hG
  clear hG
  have hu30 := Tryd.underlying30
  have HR0 := Aside0.mk hr0
  have HC0 := Aside0.mk hc0
  clear hr0 hc0
  have HB := Aside0.mk (Below.refl w.heap.size w)
  have H : ((broadsheetlaw08_awake.f k).bind fun t262 => (if t262 = true then (if (l0.length : Int) > 50 then (broadsheetlaw08_PrefixBinds.j0 k l0 a1 t262 true) else (broadsheetlaw08_PrefixBinds.j0 k l0 a1 t262 (decide ((a1.size : Int) > 300)))) else (some false))) = some r := h
  clear h
  replace H := Option.bind_eq_some_iff.mp H
  obtain ⟨t262, A30, H⟩ := H
  replace H : (if t262 = true then (if (l0.length : Int) > 50 then (broadsheetlaw08_PrefixBinds.j0 k l0 a1 t262 true) else (broadsheetlaw08_PrefixBinds.j0 k l0 a1 t262 (decide ((a1.size : Int) > 300)))) else (some false)) = some r := H
  have A3 := Aside0.mk A30
  clear A30
  by_cases c4 : t262 = true
  · subst c4
    have H1 : (if (l0.length : Int) > 50 then (broadsheetlaw08_PrefixBinds.j0 k l0 a1 true true) else (broadsheetlaw08_PrefixBinds.j0 k l0 a1 true (decide ((a1.size : Int) > 300)))) = some r := by rw [if_pos rfl] at H; exact H
    clear H
    have H := H1
    clear H1
    have HC5 := Aside0.mk H
    clear H
    go_enter Tryd.func6, Tryd.ntmps6
    go_upto_region 4 with (first | (go_at_call 14; (with_reducible refine (broadsheetlaw08_awake.calls k  true _ ?side1 A3.out).mono ?_); (case side1 => refine Glob.below HG.out ?_; repeat (first | (with_reducible first | exact HB.out | apply below_alloc | apply pw_below_drewN | apply below_drew1))); rintro e w6 ⟨rfl, hb⟩; have n0_ := Aside0.mk (below_step (by repeat (first | (with_reducible first | exact HB.out | apply below_alloc | apply pw_below_drewN | apply below_drew1))) hb); clear HB; have HB := n0_; clear n0_; (try clear hb); (try clear hb2); (try clear hk); (try clear hi)))
    repeat (go_quiet (first | (go_at_call 14; (with_reducible refine (broadsheetlaw08_awake.calls k  true _ ?side1 A3.out).mono ?_); (case side1 => refine Glob.below HG.out ?_; repeat (first | (with_reducible first | exact HB.out | apply below_alloc | apply pw_below_drewN | apply below_drew1))); rintro e w6 ⟨rfl, hb⟩; have n0_ := Aside0.mk (below_step (by repeat (first | (with_reducible first | exact HB.out | apply below_alloc | apply pw_below_drewN | apply below_drew1))) hb); clear HB; have HB := n0_; clear n0_; (try clear hb); (try clear hb2); (try clear hk); (try clear hi))); go_upto_region 4 with (first | (go_at_call 14; (with_reducible refine (broadsheetlaw08_awake.calls k  true _ ?side1 A3.out).mono ?_); (case side1 => refine Glob.below HG.out ?_; repeat (first | (with_reducible first | exact HB.out | apply below_alloc | apply pw_below_drewN | apply below_drew1))); rintro e w6 ⟨rfl, hb⟩; have n0_ := Aside0.mk (below_step (by repeat (first | (with_reducible first | exact HB.out | apply below_alloc | apply pw_below_drewN | apply below_drew1))) hb); clear HB; have HB := n0_; clear n0_; (try clear hb); (try clear hb2); (try clear hk); (try clear hi))))
    (try simp only [Act.put, List.setIfInBounds_toArray, List.set_cons_zero, List.set_cons_succ])
    go_cut [35] (fun v35 wc => ∃ (kq : Nat) (x35_4 : Bool), v35 = .bool x35_4 ∧ Aside0 (broadsheetlaw08_PrefixBinds.j0 kq l0 a1 true x35_4 = some r) ∧ Aside0 (kq ≤ k) ∧ Aside0 (Below w.heap.size w wc))
    case first =>
      have H := HC5.out
      clear HC5
      by_cases c7 : (l0.length : Int) > 50
      · rw [if_pos c7] at H
        have c7b0 : decide (50 < (l0.length : Int)) = true := decide_eq_true c7
        have c7b1 : decide (50 < l0.length) = true := decide_eq_true (by omega)
        clear c7
        (try rw [c7b0])
        have H' := Aside0.mk H
        clear H
        go_wp2
        repeat (go_quiet (fail); try go_wp2)
        go_meet
        case rel => exact ⟨_, (true), (by first | rfl | (simp; done) | (simp [*]; done)), H', ⟨by first | omega | exact Nat.le_refl _⟩, ⟨by repeat (first | (with_reducible first | exact HB.out | apply below_alloc | apply pw_below_drewN | apply below_drew1))⟩⟩
      · rw [if_neg c7] at H
        have c7b0 : decide (50 < (l0.length : Int)) = false := decide_eq_false c7
        have c7b1 : decide (50 < l0.length) = false := decide_eq_false (by omega)
        clear c7
        (try rw [c7b0])
        have H' := Aside0.mk H
        clear H
        go_wp2
        repeat (go_quiet (fail); try go_wp2)
        go_meet
        case rel => exact ⟨_, (decide ((a1.size : Int) > 300)), (by first | rfl | (simp; done) | (simp [*]; done)), H', ⟨by first | omega | exact Nat.le_refl _⟩, ⟨by repeat (first | (with_reducible first | exact HB.out | apply below_alloc | apply pw_below_drewN | apply below_drew1))⟩⟩
    case rest =>
      clear HC5
      try clear p2
      try clear c4
      try clear c6
      try clear c7
      try clear c7b0
      try clear c7b1
      obtain ⟨kq, x35_4, rfl, HA, HJ4, HB⟩ := hcut
      cases kq with
      | zero => exact absurd HA.out (by simp [broadsheetlaw08_PrefixBinds.j0])
      | succ kj4 =>
        have H := HA.out
        clear HA
        simp only [broadsheetlaw08_PrefixBinds.j0] at H
        by_cases c8 : x35_4 = true
        · subst c8
          have H1 : (some true) = some r := by rw [if_pos rfl] at H; exact H
          clear H
          have H := H1
          clear H1
          obtain rfl := Option.some.inj H
          go_wp2
          repeat (go_quiet (fail); try go_wp2)
          go_ret
          exact ⟨by first | rfl | (simp [*] <;> rfl), by repeat (first | (with_reducible first | exact HB.out | apply below_alloc | apply pw_below_drewN | apply below_drew1))⟩
        · replace c8 := Bool.eq_false_iff.mpr c8
          subst c8
          have H1 : (broadsheetlaw08_PrefixBinds.l0 kj4 l0 a1 true 0) = some r := by rw [if_neg (show ¬ (false = true) by decide)] at H; exact H
          clear H
          have H := H1
          clear H1
          have H' := Aside0.mk H
          clear H
          go_wp2
          repeat (go_quiet (fail); try go_wp2)
          go_loopg [6] kj4 (fun kq v6 w' => ∃ (x6_2 : Int), v6 = .int .i64 x6_2 ∧ Aside0 (broadsheetlaw08_PrefixBinds.l0 kq l0 a1 true x6_2 = some r) ∧ Aside0 (kq ≤ kj4) ∧ Aside0 (Below w.heap.size w w'))
          case atStart => exact ⟨(0), (by first | rfl | (simp; done) | (simp [*]; done)), H', ⟨Nat.le_refl _⟩, ⟨by repeat (first | (with_reducible first | exact HB.out | apply below_alloc | apply pw_below_drewN | apply below_drew1))⟩⟩
          case round =>
            clear H'
            try clear p2
            try clear c4
            try clear c6
            try clear c7
            try clear c7b0
            try clear c7b1
            try clear c8
            try clear p2
            obtain ⟨x6_2, rfl, HA, HK2, HB⟩ := hrel
            cases gk with
            | zero => exact absurd HA.out (by simp [broadsheetlaw08_PrefixBinds.l0])
            | succ k2 =>
              have H := HA.out
              clear HA
              simp only [broadsheetlaw08_PrefixBinds.l0] at H
              by_cases c9 : x6_2 < (l0.length : Int)
              · rw [if_pos c9] at H
                have c9b0 : decide (x6_2 < (l0.length : Int)) = true := decide_eq_true c9
                clear c9
                by_cases c10 : 0 ≤ x6_2
                · rw [if_pos c10] at H
                  have c10b0 : decide (0 ≤ x6_2) = true := decide_eq_true c10
                  clear c10
                  by_cases c11 : (((rd_T30 l0 x6_2).f0).size : Int) > 300
                  · rw [if_pos c11] at H
                    have c11b0 : decide (300 < (((rd_T30 l0 x6_2).f0).size : Int)) = true := decide_eq_true c11
                    have c11b1 : decide (300 < ((rd_T30 l0 x6_2).f0).size) = true := decide_eq_true (by omega)
                    clear c11
                    obtain rfl := Option.some.inj H
                    have p263 : 0 ≤ (x6_2 : Int) := of_decide_eq_true (by first | (with_reducible assumption) | assumption)
                    have q263 : x6_2 < (l0.length : Int) := of_decide_eq_true (by first | (with_reducible assumption) | assumption)
                    obtain ⟨ad263, e263, hx263_0, hx263_1⟩ := at_T30 HR0.out x6_2 p263 q263
                    cases e263
                    replace hx263_0 := (HB.out.cell (World.block_lt_of_cell? w _ hx263_0)).trans hx263_0
                    replace hx263_1 := (HB.out.cell (World.block_lt_of_cell? w _ hx263_1)).trans hx263_1
                    replace p263 := eq_true p263
                    replace q263 := eq_true q263
                    go_wp2
                    repeat (go_quiet (fail); try go_wp2)
                    go_ret
                    exact ⟨by first | rfl | (simp [*] <;> rfl), by repeat (first | (with_reducible first | exact HB.out | apply below_alloc | apply pw_below_drewN | apply below_drew1))⟩
                  · rw [if_neg c11] at H
                    have c11b0 : decide (300 < (((rd_T30 l0 x6_2).f0).size : Int)) = false := decide_eq_false c11
                    have c11b1 : decide (300 < ((rd_T30 l0 x6_2).f0).size) = false := decide_eq_false (by omega)
                    clear c11
                    have H' := Aside0.mk H
                    clear H
                    have p263 : 0 ≤ (x6_2 : Int) := of_decide_eq_true (by first | (with_reducible assumption) | assumption)
                    have q263 : x6_2 < (l0.length : Int) := of_decide_eq_true (by first | (with_reducible assumption) | assumption)
                    obtain ⟨ad263, e263, hx263_0, hx263_1⟩ := at_T30 HR0.out x6_2 p263 q263
                    cases e263
                    replace hx263_0 := (HB.out.cell (World.block_lt_of_cell? w _ hx263_0)).trans hx263_0
                    replace hx263_1 := (HB.out.cell (World.block_lt_of_cell? w _ hx263_1)).trans hx263_1
                    replace p263 := eq_true p263
                    replace q263 := eq_true q263
                    go_wp2
                    repeat (go_quiet (fail); try go_wp2)
                    go_roundg k2
                    case measure => have := HJ4.out; have := HK2.out; omega
                    case rel => exact ⟨(wrap64 (x6_2 + 1)), (by first | rfl | (simp; done) | (simp [*]; done)), H', ⟨by have := HJ4.out; have := HK2.out; omega⟩, ⟨by repeat (first | (with_reducible first | exact HB.out | apply below_alloc | apply pw_below_drewN | apply below_drew1))⟩⟩
                · rw [if_neg c10] at H
                  exact absurd H (by simp)
              · rw [if_neg c9] at H
                have c9b0 : decide (x6_2 < (l0.length : Int)) = false := decide_eq_false c9
                clear c9
                replace H := Option.bind_eq_some_iff.mp H
                obtain ⟨⟨t264, t265, t266⟩, A120, H⟩ := H
                replace H : (if t266 = 0 then (if (wrap64 ((t264.length : Int) + (t265.length : Int))) = (l0.length : Int) then (broadsheetlaw08_PrefixBinds.l1 k2 l0 a1 true t264 t265 0 0) else (some false)) else (if true = true then (some ((wrap64 ((t264.length : Int) + (t265.length : Int))) == 0)) else (some false))) = some r := H
                have A12 := Aside0.mk A120
                clear A120
                by_cases c13 : t266 = 0
                · rw [if_pos c13] at H
                  have c13b0 : (t266 == 0) = true := beq_iff_eq.mpr c13
                  have c13b1 : (t266 != 0) = false := bne_eq_false_iff_eq.mpr c13
                  clear c13
                  by_cases c14 : (wrap64 ((t264.length : Int) + (t265.length : Int))) = (l0.length : Int)
                  · rw [if_pos c14] at H
                    have c14b0 : ((wrap64 ((t264.length : Int) + (t265.length : Int))) == (l0.length : Int)) = true := beq_iff_eq.mpr c14
                    have c14b1 : ((wrap64 ((t264.length : Int) + (t265.length : Int))) != (l0.length : Int)) = false := bne_eq_false_iff_eq.mpr c14
                    clear c14
                    have H' := Aside0.mk H
                    clear H
                    go_wp2_with (first | (go_at_call 19; (with_reducible refine (prefix_Declare.calls k2 _ _ l0 t264 t265 t266 _ ?side1 ?side2 ?side3 A12.out).mono ?_); (case side1 => refine Glob.below HG.out ?_; repeat (first | (with_reducible first | exact HB.out | apply below_alloc | apply pw_below_drewN | apply below_drew1))); (case side2 => repeat (first | exact (Kd.C_below HR0.out HB.out) | (with_reducible refine Kd.C_alloc ?_ _) | (with_reducible refine Kd.C_drewN ?_ _) | (with_reducible refine Kd.C_drew ?_))); (case side3 => exact HC0.out); rintro e w15 ⟨v267, v269, rfl, ho0, ho1, hb⟩; have n0_ := Aside0.mk (Kd.R_lower ho0 (below_size (by repeat (first | (with_reducible first | exact HB.out | apply below_alloc | apply pw_below_drewN | apply below_drew1))))); have n1_ := Aside0.mk (Kd.R_lower ho1 (below_size (by repeat (first | (with_reducible first | exact HB.out | apply below_alloc | apply pw_below_drewN | apply below_drew1))))); have n2_ := Aside0.mk (below_step (by repeat (first | (with_reducible first | exact HB.out | apply below_alloc | apply pw_below_drewN | apply below_drew1))) hb); clear HB; have HO268 := n0_; have HO270 := n1_; have HB := n2_; clear n0_ n1_ n2_; (try clear hb); (try clear hb2); (try clear hk); (try clear hi); (try clear ho0); (try clear ho1); obtain ⟨Ao16, co16, eo16⟩ := Kd.R_slice HO268.out; subst eo16; obtain ⟨Ao17, co17, eo17⟩ := Kd.R_slice HO270.out; subst eo17))
                    repeat (go_quiet (first | (go_at_call 19; (with_reducible refine (prefix_Declare.calls k2 _ _ l0 t264 t265 t266 _ ?side1 ?side2 ?side3 A12.out).mono ?_); (case side1 => refine Glob.below HG.out ?_; repeat (first | (with_reducible first | exact HB.out | apply below_alloc | apply pw_below_drewN | apply below_drew1))); (case side2 => repeat (first | exact (Kd.C_below HR0.out HB.out) | (with_reducible refine Kd.C_alloc ?_ _) | (with_reducible refine Kd.C_drewN ?_ _) | (with_reducible refine Kd.C_drew ?_))); (case side3 => exact HC0.out); rintro e w15 ⟨v267, v269, rfl, ho0, ho1, hb⟩; have n0_ := Aside0.mk (Kd.R_lower ho0 (below_size (by repeat (first | (with_reducible first | exact HB.out | apply below_alloc | apply pw_below_drewN | apply below_drew1))))); have n1_ := Aside0.mk (Kd.R_lower ho1 (below_size (by repeat (first | (with_reducible first | exact HB.out | apply below_alloc | apply pw_below_drewN | apply below_drew1))))); have n2_ := Aside0.mk (below_step (by repeat (first | (with_reducible first | exact HB.out | apply below_alloc | apply pw_below_drewN | apply below_drew1))) hb); clear HB; have HO268 := n0_; have HO270 := n1_; have HB := n2_; clear n0_ n1_ n2_; (try clear hb); (try clear hb2); (try clear hk); (try clear hi); (try clear ho0); (try clear ho1); obtain ⟨Ao16, co16, eo16⟩ := Kd.R_slice HO268.out; subst eo16; obtain ⟨Ao17, co17, eo17⟩ := Kd.R_slice HO270.out; subst eo17)); try go_wp2_with (first | (go_at_call 19; (with_reducible refine (prefix_Declare.calls k2 _ _ l0 t264 t265 t266 _ ?side1 ?side2 ?side3 A12.out).mono ?_); (case side1 => refine Glob.below HG.out ?_; repeat (first | (with_reducible first | exact HB.out | apply below_alloc | apply pw_below_drewN | apply below_drew1))); (case side2 => repeat (first | exact (Kd.C_below HR0.out HB.out) | (with_reducible refine Kd.C_alloc ?_ _) | (with_reducible refine Kd.C_drewN ?_ _) | (with_reducible refine Kd.C_drew ?_))); (case side3 => exact HC0.out); rintro e w15 ⟨v267, v269, rfl, ho0, ho1, hb⟩; have n0_ := Aside0.mk (Kd.R_lower ho0 (below_size (by repeat (first | (with_reducible first | exact HB.out | apply below_alloc | apply pw_below_drewN | apply below_drew1))))); have n1_ := Aside0.mk (Kd.R_lower ho1 (below_size (by repeat (first | (with_reducible first | exact HB.out | apply below_alloc | apply pw_below_drewN | apply below_drew1))))); have n2_ := Aside0.mk (below_step (by repeat (first | (with_reducible first | exact HB.out | apply below_alloc | apply pw_below_drewN | apply below_drew1))) hb); clear HB; have HO268 := n0_; have HO270 := n1_; have HB := n2_; clear n0_ n1_ n2_; (try clear hb); (try clear hb2); (try clear hk); (try clear hi); (try clear ho0); (try clear ho1); obtain ⟨Ao16, co16, eo16⟩ := Kd.R_slice HO268.out; subst eo16; obtain ⟨Ao17, co17, eo17⟩ := Kd.R_slice HO270.out; subst eo17)))
                    go_loopg [10, 11] k2 (fun kq v10 v11 w' => ∃ (x10_3 : Int) (x11_3 : Int), v10 = .int .i64 x10_3 ∧ v11 = .int .i64 x11_3 ∧ Aside0 (broadsheetlaw08_PrefixBinds.l1 kq l0 a1 true t264 t265 x10_3 x11_3 = some r) ∧ Aside0 (kq ≤ k2) ∧ Aside0 (Kd.R k30 30 w' w.heap.size (fun k_ => some k_ ≠ ((.slice Ao17 t265.length co17) : Value).ownBlock) (.slice Ao16 t264.length co16) t264) ∧ Aside0 (Kd.R k30 30 w' w.heap.size (fun k_ => some k_ ≠ ((.slice Ao16 t264.length co16) : Value).ownBlock) (.slice Ao17 t265.length co17) t265) ∧ Aside0 (Below w.heap.size w w'))
                    case atStart => exact ⟨(0), (0), (by first | rfl | (simp; done) | (simp [*]; done)), (by first | rfl | (simp; done) | (simp [*]; done)), H', ⟨Nat.le_refl _⟩, ⟨by (with_reducible repeat (first | apply Kd.R_alloc | apply Kd.R_drewN | apply Kd.R_drew)); exact HO268.out⟩, ⟨by (with_reducible repeat (first | apply Kd.R_alloc | apply Kd.R_drewN | apply Kd.R_drew)); exact HO270.out⟩, ⟨by repeat (first | (with_reducible first | exact HB.out | apply below_alloc | apply pw_below_drewN | apply below_drew1))⟩⟩
                    case round =>
                      clear H'
                      try clear c1
                      try clear p2
                      try clear q2
                      try clear hx2
                      try clear c4
                      try clear c6
                      try clear p6
                      try clear c7
                      try clear c7b0
                      try clear c7b1
                      try clear c8
                      try clear c9
                      try clear c9b0
                      try clear c10
                      try clear c10b0
                      try clear c11
                      try clear c11b0
                      try clear c11b1
                      try clear c13
                      try clear c13b0
                      try clear c13b1
                      try clear c14
                      try clear c14b0
                      try clear c14b1
                      try clear hx263_0
                      try clear hx263_1
                      try clear p2
                      try clear p263
                      try clear q263
                      obtain ⟨x10_3, x11_3, rfl, rfl, HA, HK3, HO_7, HO_8, HB⟩ := hrel
                      cases gk with
                      | zero => exact absurd HA.out (by simp [broadsheetlaw08_PrefixBinds.l1])
                      | succ k3 =>
                        have H := HA.out
                        clear HA
                        simp only [broadsheetlaw08_PrefixBinds.l1] at H
                        have HC18 := Aside0.mk H
                        clear H
                        go_upto_region 18 with (fail)
                        repeat (go_quiet (fail); go_upto_region 18 with (fail))
                        go_cut [85] (fun v85 wc => ∃ (kq : Nat) (x85_17 : Bool), v85 = .bool x85_17 ∧ Aside0 (broadsheetlaw08_PrefixBinds.j3 kq l0 a1 true t264 t265 x10_3 x11_3 x85_17 = some r) ∧ Aside0 (kq ≤ k3) ∧ Aside0 (Kd.R k30 30 wc w.heap.size (fun k_ => some k_ ≠ ((.slice Ao17 t265.length co17) : Value).ownBlock) (.slice Ao16 t264.length co16) t264) ∧ Aside0 (Kd.R k30 30 wc w.heap.size (fun k_ => some k_ ≠ ((.slice Ao16 t264.length co16) : Value).ownBlock) (.slice Ao17 t265.length co17) t265) ∧ Aside0 (Below w.heap.size w wc))
                        case first =>
                          have H := HC18.out
                          clear HC18
                          by_cases c19 : x11_3 < (l0.length : Int)
                          · rw [if_pos c19] at H
                            have c19b0 : decide (x11_3 < (l0.length : Int)) = true := decide_eq_true c19
                            clear c19
                            (try rw [c19b0])
                            have H' := Aside0.mk H
                            clear H
                            go_wp2
                            repeat (go_quiet (fail); try go_wp2)
                            go_meet
                            case rel => exact ⟨_, (decide (x10_3 < (t265.length : Int))), (by first | rfl | (simp; done) | (simp [*]; done)), H', ⟨by have := HJ4.out; have := HK2.out; have := HK3.out; first | omega | exact Nat.le_refl _⟩, ⟨by (with_reducible repeat (first | apply Kd.R_alloc | apply Kd.R_drewN | apply Kd.R_drew)); exact HO_7.out⟩, ⟨by (with_reducible repeat (first | apply Kd.R_alloc | apply Kd.R_drewN | apply Kd.R_drew)); exact HO_8.out⟩, ⟨by repeat (first | (with_reducible first | exact HB.out | apply below_alloc | apply pw_below_drewN | apply below_drew1))⟩⟩
                          · rw [if_neg c19] at H
                            have c19b0 : decide (x11_3 < (l0.length : Int)) = false := decide_eq_false c19
                            clear c19
                            (try rw [c19b0])
                            have H' := Aside0.mk H
                            clear H
                            go_wp2
                            repeat (go_quiet (fail); try go_wp2)
                            go_meet
                            case rel => exact ⟨_, (false), (by first | rfl | (simp; done) | (simp [*]; done)), H', ⟨by have := HJ4.out; have := HK2.out; have := HK3.out; first | omega | exact Nat.le_refl _⟩, ⟨by (with_reducible repeat (first | apply Kd.R_alloc | apply Kd.R_drewN | apply Kd.R_drew)); exact HO_7.out⟩, ⟨by (with_reducible repeat (first | apply Kd.R_alloc | apply Kd.R_drewN | apply Kd.R_drew)); exact HO_8.out⟩, ⟨by repeat (first | (with_reducible first | exact HB.out | apply below_alloc | apply pw_below_drewN | apply below_drew1))⟩⟩
                        case rest =>
                          clear HC18
                          try clear c1
                          try clear p2
                          try clear q2
                          try clear hx2
                          try clear c4
                          try clear c6
                          try clear p6
                          try clear c7
                          try clear c7b0
                          try clear c7b1
                          try clear c8
                          try clear c9
                          try clear c9b0
                          try clear c10
                          try clear c10b0
                          try clear c11
                          try clear c11b0
                          try clear c11b1
                          try clear c13
                          try clear c13b0
                          try clear c13b1
                          try clear c14
                          try clear c14b0
                          try clear c14b1
                          try clear c19
                          try clear c19b0
                          try clear hx263_0
                          try clear hx263_1
                          try clear p2
                          try clear p263
                          try clear p6
                          try clear q2
                          try clear q263
                          obtain ⟨kq, x85_17, rfl, HA, HJ17, HO_7, HO_8, HB⟩ := hcut
                          cases kq with
                          | zero => exact absurd HA.out (by simp [broadsheetlaw08_PrefixBinds.j3])
                          | succ kj17 =>
                            have H := HA.out
                            clear HA
                            simp only [broadsheetlaw08_PrefixBinds.j3] at H
                            by_cases c20 : x85_17 = true
                            · subst c20
                              have H1 : (if 0 ≤ x11_3 then (if x11_3 < (l0.length : Int) then (if 0 ≤ x10_3 then (if x10_3 < (t265.length : Int) then (if ((((rd_T30 l0 x11_3).f0).toList) == (((rd_T30 t265 x10_3).f0).toList) && ((((rd_T30 l0 x11_3).f1).toList) == (((rd_T30 t265 x10_3).f1).toList))) = true then (broadsheetlaw08_PrefixBinds.l1 kj17 l0 a1 true t264 t265 (wrap64 (x10_3 + 1)) (wrap64 (x11_3 + 1))) else (broadsheetlaw08_PrefixBinds.l1 kj17 l0 a1 true t264 t265 x10_3 (wrap64 (x11_3 + 1)))) else (none)) else (none)) else (none)) else (none)) = some r := by rw [if_pos rfl] at H; exact H
                              clear H
                              have H := H1
                              clear H1
                              by_cases c21 : 0 ≤ x11_3
                              · rw [if_pos c21] at H
                                have c21b0 : decide (0 ≤ x11_3) = true := decide_eq_true c21
                                clear c21
                                by_cases c22 : x11_3 < (l0.length : Int)
                                · rw [if_pos c22] at H
                                  have c22b0 : decide (x11_3 < (l0.length : Int)) = true := decide_eq_true c22
                                  clear c22
                                  by_cases c23 : 0 ≤ x10_3
                                  · rw [if_pos c23] at H
                                    have c23b0 : decide (0 ≤ x10_3) = true := decide_eq_true c23
                                    clear c23
                                    by_cases c24 : x10_3 < (t265.length : Int)
                                    · rw [if_pos c24] at H
                                      have c24b0 : decide (x10_3 < (t265.length : Int)) = true := decide_eq_true c24
                                      clear c24
                                      by_cases c25 : ((((rd_T30 l0 x11_3).f0).toList) == (((rd_T30 t265 x10_3).f0).toList) && ((((rd_T30 l0 x11_3).f1).toList) == (((rd_T30 t265 x10_3).f1).toList))) = true
                                      · rw [if_pos c25] at H
                                        have c25b0 : ((((rd_T30 l0 x11_3).f0).toList) == (((rd_T30 t265 x10_3).f0).toList) && ((((rd_T30 l0 x11_3).f1).toList) == (((rd_T30 t265 x10_3).f1).toList))) = true := c25
                                        (try (have c25b1 : decide ((((rd_T30 l0 x11_3).f0).toList) = (((rd_T30 t265 x10_3).f0).toList) && ((((rd_T30 l0 x11_3).f1).toList) == (((rd_T30 t265 x10_3).f1).toList))) = true := by simpa using c25))
                                        (try (have c25b2 : ((((rd_T30 l0 x11_3).f0).toList) == (((rd_T30 t265 x10_3).f0).toList) && ((((rd_T30 l0 x11_3).f1).toList) == (((rd_T30 t265 x10_3).f1).toList))) = true := by simpa using c25))
                                        clear c25
                                        have H' := Aside0.mk H
                                        clear H
                                        have p271 : 0 ≤ (x11_3 : Int) := of_decide_eq_true (by first | (with_reducible assumption) | assumption)
                                        have q271 : x11_3 < (l0.length : Int) := of_decide_eq_true (by first | (with_reducible assumption) | assumption)
                                        obtain ⟨ad271, e271, hx271_0, hx271_1⟩ := at_T30 HR0.out x11_3 p271 q271
                                        cases e271
                                        replace hx271_0 := (HB.out.cell (World.block_lt_of_cell? w _ hx271_0)).trans hx271_0
                                        replace hx271_1 := (HB.out.cell (World.block_lt_of_cell? w _ hx271_1)).trans hx271_1
                                        replace p271 := eq_true p271
                                        replace q271 := eq_true q271
                                        have p272 : 0 ≤ (x10_3 : Int) := of_decide_eq_true (by first | (with_reducible assumption) | assumption)
                                        have q272 : x10_3 < (t265.length : Int) := of_decide_eq_true (by first | (with_reducible assumption) | assumption)
                                        obtain ⟨ad272, e272, hx272_0, hx272_1⟩ := at_T30 (Kd.R_reads' HO_8.out).2.2 x10_3 p272 q272
                                        cases e272
                                        replace p272 := eq_true p272
                                        replace q272 := eq_true q272
                                        go_wp2
                                        repeat (go_quiet (fail); try go_wp2)
                                        go_roundg kj17
                                        case measure => have := HJ4.out; have := HK2.out; have := HK3.out; have := HJ17.out; omega
                                        case rel => exact ⟨(wrap64 (x10_3 + 1)), (wrap64 (x11_3 + 1)), (by first | rfl | (simp; done) | (simp [*]; done)), (by first | rfl | (simp; done) | (simp [*]; done)), H', ⟨by have := HJ4.out; have := HK2.out; have := HK3.out; have := HJ17.out; omega⟩, ⟨by (with_reducible repeat (first | apply Kd.R_alloc | apply Kd.R_drewN | apply Kd.R_drew)); exact HO_7.out⟩, ⟨by (with_reducible repeat (first | apply Kd.R_alloc | apply Kd.R_drewN | apply Kd.R_drew)); exact HO_8.out⟩, ⟨by repeat (first | (with_reducible first | exact HB.out | apply below_alloc | apply pw_below_drewN | apply below_drew1))⟩⟩
                                      · rw [if_neg c25] at H
                                        have c25b0 : ((((rd_T30 l0 x11_3).f0).toList) == (((rd_T30 t265 x10_3).f0).toList) && ((((rd_T30 l0 x11_3).f1).toList) == (((rd_T30 t265 x10_3).f1).toList))) = false := by simpa using c25
                                        (try (have c25b1 : decide ((((rd_T30 l0 x11_3).f0).toList) = (((rd_T30 t265 x10_3).f0).toList) && ((((rd_T30 l0 x11_3).f1).toList) == (((rd_T30 t265 x10_3).f1).toList))) = false := by simpa using c25))
                                        (try (have c25b2 : ((((rd_T30 l0 x11_3).f0).toList) == (((rd_T30 t265 x10_3).f0).toList) && ((((rd_T30 l0 x11_3).f1).toList) == (((rd_T30 t265 x10_3).f1).toList))) = false := by simpa using c25))
                                        (try (have c25b3 : ¬ ((((rd_T30 l0 x11_3).f0).toList) = (((rd_T30 t265 x10_3).f0).toList) && ((((rd_T30 l0 x11_3).f1).toList) == (((rd_T30 t265 x10_3).f1).toList))) := by simpa using c25))
                                        clear c25
                                        have H' := Aside0.mk H
                                        clear H
                                        have p271 : 0 ≤ (x11_3 : Int) := of_decide_eq_true (by first | (with_reducible assumption) | assumption)
                                        have q271 : x11_3 < (l0.length : Int) := of_decide_eq_true (by first | (with_reducible assumption) | assumption)
                                        obtain ⟨ad271, e271, hx271_0, hx271_1⟩ := at_T30 HR0.out x11_3 p271 q271
                                        cases e271
                                        replace hx271_0 := (HB.out.cell (World.block_lt_of_cell? w _ hx271_0)).trans hx271_0
                                        replace hx271_1 := (HB.out.cell (World.block_lt_of_cell? w _ hx271_1)).trans hx271_1
                                        replace p271 := eq_true p271
                                        replace q271 := eq_true q271
                                        have p272 : 0 ≤ (x10_3 : Int) := of_decide_eq_true (by first | (with_reducible assumption) | assumption)
                                        have q272 : x10_3 < (t265.length : Int) := of_decide_eq_true (by first | (with_reducible assumption) | assumption)
                                        obtain ⟨ad272, e272, hx272_0, hx272_1⟩ := at_T30 (Kd.R_reads' HO_8.out).2.2 x10_3 p272 q272
                                        cases e272
                                        replace p272 := eq_true p272
                                        replace q272 := eq_true q272
                                        go_wp2
                                        repeat (go_quiet (fail); try go_wp2)
                                        go_roundg kj17
                                        case measure => have := HJ4.out; have := HK2.out; have := HK3.out; have := HJ17.out; omega
                                        case rel => exact ⟨(x10_3), (wrap64 (x11_3 + 1)), (by first | rfl | (simp; done) | (simp [*]; done)), (by first | rfl | (simp; done) | (simp [*]; done)), H', ⟨by have := HJ4.out; have := HK2.out; have := HK3.out; have := HJ17.out; omega⟩, ⟨by (with_reducible repeat (first | apply Kd.R_alloc | apply Kd.R_drewN | apply Kd.R_drew)); exact HO_7.out⟩, ⟨by (with_reducible repeat (first | apply Kd.R_alloc | apply Kd.R_drewN | apply Kd.R_drew)); exact HO_8.out⟩, ⟨by repeat (first | (with_reducible first | exact HB.out | apply below_alloc | apply pw_below_drewN | apply below_drew1))⟩⟩
                                    · rw [if_neg c24] at H
                                      exact absurd H (by simp)
                                  · rw [if_neg c23] at H
                                    exact absurd H (by simp)
                                · rw [if_neg c22] at H
                                  exact absurd H (by simp)
                              · rw [if_neg c21] at H
                                exact absurd H (by simp)
                            · replace c20 := Bool.eq_false_iff.mpr c20
                              subst c20
                              have H1 : (if x10_3 = (t265.length : Int) then ((prefix_Split.f kj17 a1).bind fun bt273 => (broadsheetlaw08_PrefixBinds.l2 kj17 a1 true t264 bt273.2.2 0)) else (some false)) = some r := by rw [if_neg (show ¬ (false = true) by decide)] at H; exact H
                              clear H
                              have H := H1
                              clear H1
                              by_cases c26 : x10_3 = (t265.length : Int)
                              · rw [if_pos c26] at H
                                have c26b0 : (x10_3 == (t265.length : Int)) = true := beq_iff_eq.mpr c26
                                have c26b1 : (x10_3 != (t265.length : Int)) = false := bne_eq_false_iff_eq.mpr c26
                                clear c26
                                replace H := Option.bind_eq_some_iff.mp H
                                obtain ⟨⟨t273, t274, t275⟩, A270, H⟩ := H
                                replace H : (broadsheetlaw08_PrefixBinds.l2 kj17 a1 true t264 t275 0) = some r := H
                                have A27 := Aside0.mk A270
                                clear A270
                                have H' := Aside0.mk H
                                clear H
                                go_wp2_with (first | (go_at_call 15; (with_reducible refine (prefix_Split.calls kj17 a1 t273 t274 t275 _ ?side1 A27.out).mono ?_); (case side1 => refine Glob.below HG.out ?_; repeat (first | (with_reducible first | exact HB.out | apply below_alloc | apply pw_below_drewN | apply below_drew1))); rintro e w28 ⟨rfl, hb⟩; have n0_ := Aside0.mk (Kd.R_below (by (with_reducible repeat (first | apply Kd.R_alloc | apply Kd.R_drewN | apply Kd.R_drew)); exact HO_7.out) hb); have n1_ := Aside0.mk (Kd.R_below (by (with_reducible repeat (first | apply Kd.R_alloc | apply Kd.R_drewN | apply Kd.R_drew)); exact HO_8.out) hb); have n2_ := Aside0.mk (below_step (by repeat (first | (with_reducible first | exact HB.out | apply below_alloc | apply pw_below_drewN | apply below_drew1))) hb); clear HO_7; clear HO_8; clear HB; have HO_7 := n0_; have HO_8 := n1_; have HB := n2_; clear n0_ n1_ n2_; (try clear hb); (try clear hb2); (try clear hk); (try clear hi)))
                                repeat (go_quiet (first | (go_at_call 15; (with_reducible refine (prefix_Split.calls kj17 a1 t273 t274 t275 _ ?side1 A27.out).mono ?_); (case side1 => refine Glob.below HG.out ?_; repeat (first | (with_reducible first | exact HB.out | apply below_alloc | apply pw_below_drewN | apply below_drew1))); rintro e w28 ⟨rfl, hb⟩; have n0_ := Aside0.mk (Kd.R_below (by (with_reducible repeat (first | apply Kd.R_alloc | apply Kd.R_drewN | apply Kd.R_drew)); exact HO_7.out) hb); have n1_ := Aside0.mk (Kd.R_below (by (with_reducible repeat (first | apply Kd.R_alloc | apply Kd.R_drewN | apply Kd.R_drew)); exact HO_8.out) hb); have n2_ := Aside0.mk (below_step (by repeat (first | (with_reducible first | exact HB.out | apply below_alloc | apply pw_below_drewN | apply below_drew1))) hb); clear HO_7; clear HO_8; clear HB; have HO_7 := n0_; have HO_8 := n1_; have HB := n2_; clear n0_ n1_ n2_; (try clear hb); (try clear hb2); (try clear hk); (try clear hi))); try go_wp2_with (first | (go_at_call 15; (with_reducible refine (prefix_Split.calls kj17 a1 t273 t274 t275 _ ?side1 A27.out).mono ?_); (case side1 => refine Glob.below HG.out ?_; repeat (first | (with_reducible first | exact HB.out | apply below_alloc | apply pw_below_drewN | apply below_drew1))); rintro e w28 ⟨rfl, hb⟩; have n0_ := Aside0.mk (Kd.R_below (by (with_reducible repeat (first | apply Kd.R_alloc | apply Kd.R_drewN | apply Kd.R_drew)); exact HO_7.out) hb); have n1_ := Aside0.mk (Kd.R_below (by (with_reducible repeat (first | apply Kd.R_alloc | apply Kd.R_drewN | apply Kd.R_drew)); exact HO_8.out) hb); have n2_ := Aside0.mk (below_step (by repeat (first | (with_reducible first | exact HB.out | apply below_alloc | apply pw_below_drewN | apply below_drew1))) hb); clear HO_7; clear HO_8; clear HB; have HO_7 := n0_; have HO_8 := n1_; have HB := n2_; clear n0_ n1_ n2_; (try clear hb); (try clear hb2); (try clear hk); (try clear hi))))
                                go_loopg [15] kj17 (fun kq v15 w' => ∃ (x15_5 : Int), v15 = .int .i64 x15_5 ∧ Aside0 (broadsheetlaw08_PrefixBinds.l2 kq a1 true t264 t275 x15_5 = some r) ∧ Aside0 (kq ≤ kj17) ∧ Aside0 (Kd.R k30 30 w' w.heap.size (fun _ => True) (.slice Ao16 t264.length co16) t264) ∧ Aside0 (Below w.heap.size w w'))
                                case atStart => exact ⟨(0), (by first | rfl | (simp; done) | (simp [*]; done)), H', ⟨Nat.le_refl _⟩, ⟨by (with_reducible repeat (first | apply Kd.R_alloc | apply Kd.R_drewN | apply Kd.R_drew)); exact Kd.R_mono HO_7.out (fun _ hk => trivial)⟩, ⟨by repeat (first | (with_reducible first | exact HB.out | apply below_alloc | apply pw_below_drewN | apply below_drew1))⟩⟩
                                case round =>
                                  clear H'
                                  try clear c1
                                  try clear c2
                                  try clear p2
                                  try clear q2
                                  try clear hx2
                                  try clear c4
                                  try clear c6
                                  try clear p6
                                  try clear c7
                                  try clear c7b0
                                  try clear c7b1
                                  try clear c8
                                  try clear c9
                                  try clear c9b0
                                  try clear c10
                                  try clear c10b0
                                  try clear c11
                                  try clear c11b0
                                  try clear c11b1
                                  try clear c13
                                  try clear c13b0
                                  try clear c13b1
                                  try clear c14
                                  try clear c14b0
                                  try clear c14b1
                                  try clear c19
                                  try clear c19b0
                                  try clear c20
                                  try clear c21
                                  try clear c21b0
                                  try clear c22
                                  try clear c22b0
                                  try clear c23
                                  try clear c23b0
                                  try clear c24
                                  try clear c24b0
                                  try clear c25
                                  try clear c25b0
                                  try clear c25b1
                                  try clear c25b2
                                  try clear c26
                                  try clear c26b0
                                  try clear c26b1
                                  try clear p26
                                  try clear q26
                                  try clear hx26
                                  try clear p27
                                  try clear q27
                                  try clear hx27
                                  try clear hx263_0
                                  try clear hx263_1
                                  try clear hx271_0
                                  try clear hx271_1
                                  try clear hx272_0
                                  try clear hx272_1
                                  try clear p2
                                  try clear p263
                                  try clear p271
                                  try clear p272
                                  try clear p6
                                  try clear q2
                                  try clear q263
                                  try clear q271
                                  try clear q272
                                  obtain ⟨x15_5, rfl, HA, HK5, HO_7, HB⟩ := hrel
                                  cases gk with
                                  | zero => exact absurd HA.out (by simp [broadsheetlaw08_PrefixBinds.l2])
                                  | succ k5 =>
                                    have H := HA.out
                                    clear HA
                                    simp only [broadsheetlaw08_PrefixBinds.l2] at H
                                    have HC29 := Aside0.mk H
                                    clear H
                                    go_upto_region 26 with (fail)
                                    repeat (go_quiet (fail); go_upto_region 26 with (fail))
                                    go_cut [116] (fun v116 wc => ∃ (kq : Nat) (x116_28 : Bool), v116 = .bool x116_28 ∧ Aside0 (broadsheetlaw08_PrefixBinds.j5 kq a1 true t264 t275 x15_5 x116_28 = some r) ∧ Aside0 (kq ≤ k5) ∧ Aside0 (Kd.R k30 30 wc w.heap.size (fun _ => True) (.slice Ao16 t264.length co16) t264) ∧ Aside0 (Below w.heap.size w wc))
                                    case first =>
                                      have H := HC29.out
                                      clear HC29
                                      by_cases c30 : x15_5 < (t264.length : Int)
                                      · rw [if_pos c30] at H
                                        have c30b0 : decide (x15_5 < (t264.length : Int)) = true := decide_eq_true c30
                                        clear c30
                                        (try rw [c30b0])
                                        have H' := Aside0.mk H
                                        clear H
                                        go_wp2
                                        repeat (go_quiet (fail); try go_wp2)
                                        go_meet
                                        case rel => exact ⟨_, ((t275 == 0)), (by first | rfl | (simp; done) | (simp [*]; done)), H', ⟨by have := HJ4.out; have := HK2.out; have := HK3.out; have := HJ17.out; have := HK5.out; first | omega | exact Nat.le_refl _⟩, ⟨by (with_reducible repeat (first | apply Kd.R_alloc | apply Kd.R_drewN | apply Kd.R_drew)); exact HO_7.out⟩, ⟨by repeat (first | (with_reducible first | exact HB.out | apply below_alloc | apply pw_below_drewN | apply below_drew1))⟩⟩
                                      · rw [if_neg c30] at H
                                        have c30b0 : decide (x15_5 < (t264.length : Int)) = false := decide_eq_false c30
                                        clear c30
                                        (try rw [c30b0])
                                        have H' := Aside0.mk H
                                        clear H
                                        go_wp2
                                        repeat (go_quiet (fail); try go_wp2)
                                        go_meet
                                        case rel => exact ⟨_, (false), (by first | rfl | (simp; done) | (simp [*]; done)), H', ⟨by have := HJ4.out; have := HK2.out; have := HK3.out; have := HJ17.out; have := HK5.out; first | omega | exact Nat.le_refl _⟩, ⟨by (with_reducible repeat (first | apply Kd.R_alloc | apply Kd.R_drewN | apply Kd.R_drew)); exact HO_7.out⟩, ⟨by repeat (first | (with_reducible first | exact HB.out | apply below_alloc | apply pw_below_drewN | apply below_drew1))⟩⟩
                                    case rest =>
                                      clear HC29
                                      try clear c1
                                      try clear c2
                                      try clear p2
                                      try clear q2
                                      try clear hx2
                                      try clear c3
                                      try clear c4
                                      try clear c6
                                      try clear p6
                                      try clear c7
                                      try clear c7b0
                                      try clear c7b1
                                      try clear c8
                                      try clear c9
                                      try clear c9b0
                                      try clear c10
                                      try clear c10b0
                                      try clear c11
                                      try clear c11b0
                                      try clear c11b1
                                      try clear c13
                                      try clear c13b0
                                      try clear c13b1
                                      try clear c14
                                      try clear c14b0
                                      try clear c14b1
                                      try clear c19
                                      try clear c19b0
                                      try clear c20
                                      try clear c21
                                      try clear c21b0
                                      try clear c22
                                      try clear c22b0
                                      try clear c23
                                      try clear c23b0
                                      try clear c24
                                      try clear c24b0
                                      try clear c25
                                      try clear c25b0
                                      try clear c25b1
                                      try clear c25b2
                                      try clear c26
                                      try clear c26b0
                                      try clear c26b1
                                      try clear p26
                                      try clear q26
                                      try clear hx26
                                      try clear p27
                                      try clear q27
                                      try clear hx27
                                      try clear c30
                                      try clear c30b0
                                      try clear hx263_0
                                      try clear hx263_1
                                      try clear hx271_0
                                      try clear hx271_1
                                      try clear hx272_0
                                      try clear hx272_1
                                      try clear p2
                                      try clear p26
                                      try clear p263
                                      try clear p27
                                      try clear p271
                                      try clear p272
                                      try clear p6
                                      try clear q2
                                      try clear q26
                                      try clear q263
                                      try clear q27
                                      try clear q271
                                      try clear q272
                                      obtain ⟨kq, x116_28, rfl, HA, HJ28, HO_7, HB⟩ := hcut
                                      cases kq with
                                      | zero => exact absurd HA.out (by simp [broadsheetlaw08_PrefixBinds.j5])
                                      | succ kj28 =>
                                        have H := HA.out
                                        clear HA
                                        simp only [broadsheetlaw08_PrefixBinds.j5] at H
                                        by_cases c31 : x116_28 = true
                                        · subst c31
                                          have H1 : (broadsheetlaw08_PrefixBinds.l3 kj28 a1 true t264 t275 x15_5 true (wrap64 (x15_5 + 1))) = some r := by rw [if_pos rfl] at H; exact H
                                          clear H
                                          have H := H1
                                          clear H1
                                          have H' := Aside0.mk H
                                          clear H
                                          go_wp2
                                          repeat (go_quiet (fail); try go_wp2)
                                          go_loopg [16, 17] kj28 (fun kq v16 v17 w' => ∃ (x16_7 : Bool) (x17_7 : Int), v16 = .bool x16_7 ∧ v17 = .int .i64 x17_7 ∧ Aside0 (broadsheetlaw08_PrefixBinds.l3 kq a1 true t264 t275 x15_5 x16_7 x17_7 = some r) ∧ Aside0 (kq ≤ kj28) ∧ Aside0 (Kd.R k30 30 w' w.heap.size (fun _ => True) (.slice Ao16 t264.length co16) t264) ∧ Aside0 (Below w.heap.size w w'))
                                          case atStart => exact ⟨(true), (wrap64 (x15_5 + 1)), (by first | rfl | (simp; done) | (simp [*]; done)), (by first | rfl | (simp; done) | (simp [*]; done)), H', ⟨Nat.le_refl _⟩, ⟨by (with_reducible repeat (first | apply Kd.R_alloc | apply Kd.R_drewN | apply Kd.R_drew)); exact HO_7.out⟩, ⟨by repeat (first | (with_reducible first | exact HB.out | apply below_alloc | apply pw_below_drewN | apply below_drew1))⟩⟩
                                          case round =>
                                            clear H'
                                            try clear c1
                                            try clear c2
                                            try clear p2
                                            try clear q2
                                            try clear hx2
                                            try clear c3
                                            try clear c4
                                            try clear c6
                                            try clear p6
                                            try clear c7
                                            try clear c7b0
                                            try clear c7b1
                                            try clear c8
                                            try clear c9
                                            try clear c9b0
                                            try clear c10
                                            try clear c10b0
                                            try clear c11
                                            try clear c11b0
                                            try clear c11b1
                                            try clear c13
                                            try clear c13b0
                                            try clear c13b1
                                            try clear c14
                                            try clear c14b0
                                            try clear c14b1
                                            try clear c19
                                            try clear c19b0
                                            try clear c20
                                            try clear c21
                                            try clear c21b0
                                            try clear c22
                                            try clear c22b0
                                            try clear c23
                                            try clear c23b0
                                            try clear c24
                                            try clear c24b0
                                            try clear c25
                                            try clear c25b0
                                            try clear c25b1
                                            try clear c25b2
                                            try clear c26
                                            try clear c26b0
                                            try clear c26b1
                                            try clear p26
                                            try clear q26
                                            try clear hx26
                                            try clear p27
                                            try clear q27
                                            try clear hx27
                                            try clear c30
                                            try clear c30b0
                                            try clear c31
                                            try clear hx263_0
                                            try clear hx263_1
                                            try clear hx271_0
                                            try clear hx271_1
                                            try clear hx272_0
                                            try clear hx272_1
                                            try clear p2
                                            try clear p26
                                            try clear p263
                                            try clear p27
                                            try clear p271
                                            try clear p272
                                            try clear p6
                                            try clear q2
                                            try clear q26
                                            try clear q263
                                            try clear q27
                                            try clear q271
                                            try clear q272
                                            obtain ⟨x16_7, x17_7, rfl, rfl, HA, HK7, HO_7, HB⟩ := hrel
                                            cases gk with
                                            | zero => exact absurd HA.out (by simp [broadsheetlaw08_PrefixBinds.l3])
                                            | succ k7 =>
                                              have H := HA.out
                                              clear HA
                                              simp only [broadsheetlaw08_PrefixBinds.l3] at H
                                              by_cases c32 : x17_7 < (t264.length : Int)
                                              · rw [if_pos c32] at H
                                                have c32b0 : decide (x17_7 < (t264.length : Int)) = true := decide_eq_true c32
                                                clear c32
                                                by_cases c33 : x16_7 = true
                                                · subst c33
                                                  have H1 : (if 0 ≤ x17_7 then (if 0 ≤ x15_5 then (if x15_5 < (t264.length : Int) then (broadsheetlaw08_PrefixBinds.l3 k7 a1 true t264 t275 x15_5 (((rd_T30 t264 x17_7).f0).toList != ((rd_T30 t264 x15_5).f0).toList) (wrap64 (x17_7 + 1))) else (none)) else (none)) else (none)) = some r := by rw [if_pos rfl] at H; exact H
                                                  clear H
                                                  have H := H1
                                                  clear H1
                                                  by_cases c34 : 0 ≤ x17_7
                                                  · rw [if_pos c34] at H
                                                    have c34b0 : decide (0 ≤ x17_7) = true := decide_eq_true c34
                                                    clear c34
                                                    by_cases c35 : 0 ≤ x15_5
                                                    · rw [if_pos c35] at H
                                                      have c35b0 : decide (0 ≤ x15_5) = true := decide_eq_true c35
                                                      clear c35
                                                      by_cases c36 : x15_5 < (t264.length : Int)
                                                      · rw [if_pos c36] at H
                                                        have c36b0 : decide (x15_5 < (t264.length : Int)) = true := decide_eq_true c36
                                                        clear c36
                                                        have H' := Aside0.mk H
                                                        clear H
                                                        have p276 : 0 ≤ (x17_7 : Int) := of_decide_eq_true (by first | (with_reducible assumption) | assumption)
                                                        have q276 : x17_7 < (t264.length : Int) := of_decide_eq_true (by first | (with_reducible assumption) | assumption)
                                                        obtain ⟨ad276, e276, hx276_0, hx276_1⟩ := at_T30 (Kd.R_reads' HO_7.out).2.2 x17_7 p276 q276
                                                        cases e276
                                                        replace p276 := eq_true p276
                                                        replace q276 := eq_true q276
                                                        have p277 : 0 ≤ (x15_5 : Int) := of_decide_eq_true (by first | (with_reducible assumption) | assumption)
                                                        have q277 : x15_5 < (t264.length : Int) := of_decide_eq_true (by first | (with_reducible assumption) | assumption)
                                                        obtain ⟨ad277, e277, hx277_0, hx277_1⟩ := at_T30 (Kd.R_reads' HO_7.out).2.2 x15_5 p277 q277
                                                        obtain rfl : ad276 = ad277 := (by injection e277)
                                                        replace p277 := eq_true p277
                                                        replace q277 := eq_true q277
                                                        go_wp2
                                                        repeat (go_quiet (fail); try go_wp2)
                                                        go_roundg k7
                                                        case measure => have := HJ4.out; have := HK2.out; have := HK3.out; have := HJ17.out; have := HK5.out; have := HJ28.out; have := HK7.out; omega
                                                        case rel => exact ⟨((((rd_T30 t264 x17_7).f0).toList != ((rd_T30 t264 x15_5).f0).toList)), (wrap64 (x17_7 + 1)), (by first | rfl | (simp; done) | (simp [*]; done)), (by first | rfl | (simp; done) | (simp [*]; done)), H', ⟨by have := HJ4.out; have := HK2.out; have := HK3.out; have := HJ17.out; have := HK5.out; have := HJ28.out; have := HK7.out; omega⟩, ⟨by (with_reducible repeat (first | apply Kd.R_alloc | apply Kd.R_drewN | apply Kd.R_drew)); exact HO_7.out⟩, ⟨by repeat (first | (with_reducible first | exact HB.out | apply below_alloc | apply pw_below_drewN | apply below_drew1))⟩⟩
                                                      · rw [if_neg c36] at H
                                                        exact absurd H (by simp)
                                                    · rw [if_neg c35] at H
                                                      exact absurd H (by simp)
                                                  · rw [if_neg c34] at H
                                                    exact absurd H (by simp)
                                                · replace c33 := Bool.eq_false_iff.mpr c33
                                                  subst c33
                                                  have H1 : (broadsheetlaw08_PrefixBinds.l3 k7 a1 true t264 t275 x15_5 false (wrap64 (x17_7 + 1))) = some r := by rw [if_neg (show ¬ (false = true) by decide)] at H; exact H
                                                  clear H
                                                  have H := H1
                                                  clear H1
                                                  have H' := Aside0.mk H
                                                  clear H
                                                  go_wp2
                                                  repeat (go_quiet (fail); try go_wp2)
                                                  go_roundg k7
                                                  case measure => have := HJ4.out; have := HK2.out; have := HK3.out; have := HJ17.out; have := HK5.out; have := HJ28.out; have := HK7.out; omega
                                                  case rel => exact ⟨(false), (wrap64 (x17_7 + 1)), (by first | rfl | (simp; done) | (simp [*]; done)), (by first | rfl | (simp; done) | (simp [*]; done)), H', ⟨by have := HJ4.out; have := HK2.out; have := HK3.out; have := HJ17.out; have := HK5.out; have := HJ28.out; have := HK7.out; omega⟩, ⟨by (with_reducible repeat (first | apply Kd.R_alloc | apply Kd.R_drewN | apply Kd.R_drew)); exact HO_7.out⟩, ⟨by repeat (first | (with_reducible first | exact HB.out | apply below_alloc | apply pw_below_drewN | apply below_drew1))⟩⟩
                                              · rw [if_neg c32] at H
                                                have c32b0 : decide (x17_7 < (t264.length : Int)) = false := decide_eq_false c32
                                                clear c32
                                                by_cases c37 : 0 ≤ x15_5
                                                · rw [if_pos c37] at H
                                                  have c37b0 : decide (0 ≤ x15_5) = true := decide_eq_true c37
                                                  clear c37
                                                  by_cases c38 : x15_5 < (t264.length : Int)
                                                  · rw [if_pos c38] at H
                                                    have c38b0 : decide (x15_5 < (t264.length : Int)) = true := decide_eq_true c38
                                                    clear c38
                                                    have HC39 := Aside0.mk H
                                                    clear H
                                                    have p278 : 0 ≤ (x15_5 : Int) := of_decide_eq_true (by first | (with_reducible assumption) | assumption)
                                                    have q278 : x15_5 < (t264.length : Int) := of_decide_eq_true (by first | (with_reducible assumption) | assumption)
                                                    obtain ⟨ad278, e278, hx278_0, hx278_1⟩ := at_T30 (Kd.R_reads' HO_7.out).2.2 x15_5 p278 q278
                                                    cases e278
                                                    replace p278 := eq_true p278
                                                    replace q278 := eq_true q278
                                                    go_upto_if 147 with (fail)
                                                    repeat (go_quiet (fail); go_upto_if 147 with (fail))
                                                    go_cut [18] (fun v18 wc => ∃ (kq : Nat) (x18_38 : ByteArray), v18 = .string x18_38 ∧ Aside0 (broadsheetlaw08_PrefixBinds.j7 kq a1 true t264 t275 x15_5 x16_7 x18_38 = some r) ∧ Aside0 (kq ≤ k7) ∧ Aside0 (Kd.R k30 30 wc w.heap.size (fun _ => True) (.slice (some ad278) t264.length co16) t264) ∧ Aside0 (Below w.heap.size w wc))
                                                    case first =>
                                                      have H := HC39.out
                                                      clear HC39
                                                      by_cases c40 : ((rd_T30 t264 x15_5).f0).toList = ([] : List UInt8)
                                                      · rw [if_pos c40] at H
                                                        have c40b0 : (((rd_T30 t264 x15_5).f0).toList == ([] : List UInt8)) = true := beq_iff_eq.mpr c40
                                                        have c40b1 : (((rd_T30 t264 x15_5).f0).toList != ([] : List UInt8)) = false := bne_eq_false_iff_eq.mpr c40
                                                        have c40b2 : (((rd_T30 t264 x15_5).f0).toList).isEmpty = true := List.isEmpty_iff.mpr c40
                                                        have c40b3 : (!(((rd_T30 t264 x15_5).f0).toList).isEmpty) = false := by rw [c40b2]; rfl
                                                        clear c40
                                                        (try rw [c40b0])
                                                        have H' := Aside0.mk H
                                                        clear H
                                                        go_wp2
                                                        repeat (go_quiet (fail); try go_wp2)
                                                        all_goals try (exact absurd (by assumption : (!(((rd_T30 t264 x15_5).f0).toList).isEmpty) = true) (by rw [c40b2]; decide))
                                                        go_meet
                                                        case rel => exact ⟨_, (a1), (by first | rfl | (simp; done) | (simp [*]; done)), H', ⟨by have := HJ4.out; have := HK2.out; have := HK3.out; have := HJ17.out; have := HK5.out; have := HJ28.out; have := HK7.out; first | omega | exact Nat.le_refl _⟩, ⟨by (with_reducible repeat (first | apply Kd.R_alloc | apply Kd.R_drewN | apply Kd.R_drew)); exact HO_7.out⟩, ⟨by repeat (first | (with_reducible first | exact HB.out | apply below_alloc | apply pw_below_drewN | apply below_drew1))⟩⟩
                                                      · rw [if_neg c40] at H
                                                        have c40b0 : (((rd_T30 t264 x15_5).f0).toList == ([] : List UInt8)) = false := beq_eq_false_iff_ne.mpr c40
                                                        have c40b1 : (((rd_T30 t264 x15_5).f0).toList != ([] : List UInt8)) = true := bne_iff_ne.mpr c40
                                                        have c40b2 : (((rd_T30 t264 x15_5).f0).toList).isEmpty = false := List.isEmpty_eq_false_iff.mpr c40
                                                        have c40b3 : (!(((rd_T30 t264 x15_5).f0).toList).isEmpty) = true := by rw [c40b2]; rfl
                                                        (try rw [c40b0])
                                                        by_cases c41 : ((rd_T30 t264 x15_5).f0).size + 1 ≤ 9223372036854775807
                                                        · rw [if_pos c41] at H
                                                          have c41b0 := eq_true c41
                                                          have c41b1 : decide (((rd_T30 t264 x15_5).f0).size + 1 ≤ 9223372036854775807) = true := decide_eq_true c41
                                                          try have c41b2 : (9223372036854775807 < ((rd_T30 t264 x15_5).f0).size + 1) = False := eq_false (Nat.not_lt.2 c41)
                                                          by_cases c42 : (((rd_T30 t264 x15_5).f0) ++ (⟨#[58]⟩ : ByteArray)).size + a1.size ≤ 9223372036854775807
                                                          · rw [if_pos c42] at H
                                                            have c42b0 := eq_true c42
                                                            have c42b1 : decide ((((rd_T30 t264 x15_5).f0) ++ (⟨#[58]⟩ : ByteArray)).size + a1.size ≤ 9223372036854775807) = true := decide_eq_true c42
                                                            try have c42b2 : (9223372036854775807 < (((rd_T30 t264 x15_5).f0) ++ (⟨#[58]⟩ : ByteArray)).size + a1.size) = False := eq_false (Nat.not_lt.2 c42)
                                                            have H' := Aside0.mk H
                                                            clear H
                                                            have p279 : 0 ≤ (x15_5 : Int) := of_decide_eq_true (by first | (with_reducible assumption) | assumption)
                                                            have q279 : x15_5 < (t264.length : Int) := of_decide_eq_true (by first | (with_reducible assumption) | assumption)
                                                            obtain ⟨ad279, e279, hx279_0, hx279_1⟩ := at_T30 (Kd.R_reads' HO_7.out).2.2 x15_5 p279 q279
                                                            obtain rfl : ad278 = ad279 := (by injection e279)
                                                            replace p279 := eq_true p279
                                                            replace q279 := eq_true q279
                                                            go_wp2
                                                            repeat (go_quiet (fail); try go_wp2)
                                                            all_goals try (exact absurd (by assumption : (!(((rd_T30 t264 x15_5).f0).toList).isEmpty) = false) (by rw [c40b2]; decide))
                                                            go_meet
                                                            case rel => exact ⟨_, ((((rd_T30 t264 x15_5).f0) ++ (⟨#[58]⟩ : ByteArray)) ++ a1), (by first | rfl | (simp; done) | (simp [*]; done)), H', ⟨by have := HJ4.out; have := HK2.out; have := HK3.out; have := HJ17.out; have := HK5.out; have := HJ28.out; have := HK7.out; first | omega | exact Nat.le_refl _⟩, ⟨by (with_reducible repeat (first | apply Kd.R_alloc | apply Kd.R_drewN | apply Kd.R_drew)); exact HO_7.out⟩, ⟨by repeat (first | (with_reducible first | exact HB.out | apply below_alloc | apply pw_below_drewN | apply below_drew1))⟩⟩
                                                          · rw [if_neg c42] at H
                                                            exact absurd H (by simp)
                                                        · rw [if_neg c41] at H
                                                          exact absurd H (by simp)
                                                    case rest =>
                                                      clear HC39
                                                      try clear c1
                                                      try clear c2
                                                      try clear p2
                                                      try clear q2
                                                      try clear hx2
                                                      try clear c3
                                                      try clear c4
                                                      try clear c6
                                                      try clear p6
                                                      try clear c7
                                                      try clear c7b0
                                                      try clear c7b1
                                                      try clear c8
                                                      try clear c9
                                                      try clear c9b0
                                                      try clear c10
                                                      try clear c10b0
                                                      try clear c11
                                                      try clear c11b0
                                                      try clear c11b1
                                                      try clear c13
                                                      try clear c13b0
                                                      try clear c13b1
                                                      try clear c14
                                                      try clear c14b0
                                                      try clear c14b1
                                                      try clear c19
                                                      try clear c19b0
                                                      try clear c20
                                                      try clear c21
                                                      try clear c21b0
                                                      try clear c22
                                                      try clear c22b0
                                                      try clear c23
                                                      try clear c23b0
                                                      try clear c24
                                                      try clear c24b0
                                                      try clear c25
                                                      try clear c25b0
                                                      try clear c25b1
                                                      try clear c25b2
                                                      try clear c26
                                                      try clear c26b0
                                                      try clear c26b1
                                                      try clear p26
                                                      try clear q26
                                                      try clear hx26
                                                      try clear p27
                                                      try clear q27
                                                      try clear hx27
                                                      try clear c30
                                                      try clear c30b0
                                                      try clear c31
                                                      try clear c32
                                                      try clear c32b0
                                                      try clear c33
                                                      try clear c34
                                                      try clear c34b0
                                                      try clear c35
                                                      try clear c35b0
                                                      try clear c36
                                                      try clear c36b0
                                                      try clear c37
                                                      try clear c37b0
                                                      try clear c38
                                                      try clear c38b0
                                                      try clear c40
                                                      try clear c40b0
                                                      try clear c40b1
                                                      try clear c41
                                                      try clear c41b0
                                                      try clear c41b1
                                                      try clear c41b2
                                                      try clear c42
                                                      try clear c42b0
                                                      try clear c42b1
                                                      try clear c42b2
                                                      try clear hx263_0
                                                      try clear hx263_1
                                                      try clear hx271_0
                                                      try clear hx271_1
                                                      try clear hx272_0
                                                      try clear hx272_1
                                                      try clear hx276_0
                                                      try clear hx276_1
                                                      try clear hx277_0
                                                      try clear hx277_1
                                                      try clear hx278_0
                                                      try clear hx278_1
                                                      try clear hx279_0
                                                      try clear hx279_1
                                                      try clear p2
                                                      try clear p26
                                                      try clear p263
                                                      try clear p27
                                                      try clear p271
                                                      try clear p272
                                                      try clear p276
                                                      try clear p277
                                                      try clear p278
                                                      try clear p279
                                                      try clear p6
                                                      try clear q2
                                                      try clear q26
                                                      try clear q263
                                                      try clear q27
                                                      try clear q271
                                                      try clear q272
                                                      try clear q276
                                                      try clear q277
                                                      try clear q278
                                                      try clear q279
                                                      obtain ⟨kq, x18_38, rfl, HA, HJ38, HO_7, HB⟩ := hcut
                                                      cases kq with
                                                      | zero => exact absurd HA.out (by simp [broadsheetlaw08_PrefixBinds.j7])
                                                      | succ kj38 =>
                                                        have H := HA.out
                                                        clear HA
                                                        simp only [broadsheetlaw08_PrefixBinds.j7] at H
                                                        replace H := Option.bind_eq_some_iff.mp H
                                                        obtain ⟨⟨t280, t281, t282⟩, A430, H⟩ := H
                                                        replace H : ((prefix_Split.f kj38 x18_38).bind fun bt283 => (if x16_7 = true then (if bt283.2.2 = 0 then (if t281.toList = a1.toList then (if t282 = 0 then (if 0 ≤ x15_5 then (if x15_5 < (t264.length : Int) then (if t280.toList = ((rd_T30 t264 x15_5).f1).toList then (broadsheetlaw08_PrefixBinds.l2 kj38 a1 true t264 t275 (wrap64 (x15_5 + 1))) else (some false)) else (none)) else (none)) else (some false)) else (broadsheetlaw08_PrefixBinds.l2 kj38 a1 true t264 t275 (wrap64 (x15_5 + 1)))) else (broadsheetlaw08_PrefixBinds.l2 kj38 a1 true t264 t275 (wrap64 (x15_5 + 1)))) else (broadsheetlaw08_PrefixBinds.l2 kj38 a1 true t264 t275 (wrap64 (x15_5 + 1))))) = some r := H
                                                        have A43 := Aside0.mk A430
                                                        clear A430
                                                        replace H := Option.bind_eq_some_iff.mp H
                                                        obtain ⟨⟨t283, t284, t285⟩, A440, H⟩ := H
                                                        replace H : (if x16_7 = true then (if t285 = 0 then (if t281.toList = a1.toList then (if t282 = 0 then (if 0 ≤ x15_5 then (if x15_5 < (t264.length : Int) then (if t280.toList = ((rd_T30 t264 x15_5).f1).toList then (broadsheetlaw08_PrefixBinds.l2 kj38 a1 true t264 t275 (wrap64 (x15_5 + 1))) else (some false)) else (none)) else (none)) else (some false)) else (broadsheetlaw08_PrefixBinds.l2 kj38 a1 true t264 t275 (wrap64 (x15_5 + 1)))) else (broadsheetlaw08_PrefixBinds.l2 kj38 a1 true t264 t275 (wrap64 (x15_5 + 1)))) else (broadsheetlaw08_PrefixBinds.l2 kj38 a1 true t264 t275 (wrap64 (x15_5 + 1)))) = some r := H
                                                        have A44 := Aside0.mk A440
                                                        clear A440
                                                        by_cases c45 : x16_7 = true
                                                        · subst c45
                                                          have H1 : (if t285 = 0 then (if t281.toList = a1.toList then (if t282 = 0 then (if 0 ≤ x15_5 then (if x15_5 < (t264.length : Int) then (if t280.toList = ((rd_T30 t264 x15_5).f1).toList then (broadsheetlaw08_PrefixBinds.l2 kj38 a1 true t264 t275 (wrap64 (x15_5 + 1))) else (some false)) else (none)) else (none)) else (some false)) else (broadsheetlaw08_PrefixBinds.l2 kj38 a1 true t264 t275 (wrap64 (x15_5 + 1)))) else (broadsheetlaw08_PrefixBinds.l2 kj38 a1 true t264 t275 (wrap64 (x15_5 + 1)))) = some r := by rw [if_pos rfl] at H; exact H
                                                          clear H
                                                          have H := H1
                                                          clear H1
                                                          by_cases c46 : t285 = 0
                                                          · rw [if_pos c46] at H
                                                            have c46b0 : (t285 == 0) = true := beq_iff_eq.mpr c46
                                                            have c46b1 : (t285 != 0) = false := bne_eq_false_iff_eq.mpr c46
                                                            clear c46
                                                            by_cases c47 : t281.toList = a1.toList
                                                            · rw [if_pos c47] at H
                                                              have c47b0 : (t281.toList == a1.toList) = true := beq_iff_eq.mpr c47
                                                              have c47b1 : (t281.toList != a1.toList) = false := bne_eq_false_iff_eq.mpr c47
                                                              clear c47
                                                              by_cases c48 : t282 = 0
                                                              · rw [if_pos c48] at H
                                                                have c48b0 : (t282 == 0) = true := beq_iff_eq.mpr c48
                                                                have c48b1 : (t282 != 0) = false := bne_eq_false_iff_eq.mpr c48
                                                                clear c48
                                                                by_cases c49 : 0 ≤ x15_5
                                                                · rw [if_pos c49] at H
                                                                  have c49b0 : decide (0 ≤ x15_5) = true := decide_eq_true c49
                                                                  clear c49
                                                                  by_cases c50 : x15_5 < (t264.length : Int)
                                                                  · rw [if_pos c50] at H
                                                                    have c50b0 : decide (x15_5 < (t264.length : Int)) = true := decide_eq_true c50
                                                                    clear c50
                                                                    by_cases c51 : t280.toList = ((rd_T30 t264 x15_5).f1).toList
                                                                    · rw [if_pos c51] at H
                                                                      have c51b0 : (t280.toList == ((rd_T30 t264 x15_5).f1).toList) = true := beq_iff_eq.mpr c51
                                                                      have c51b1 : (t280.toList != ((rd_T30 t264 x15_5).f1).toList) = false := bne_eq_false_iff_eq.mpr c51
                                                                      clear c51
                                                                      have H' := Aside0.mk H
                                                                      clear H
                                                                      go_wp2_with (first | (go_at_call 17; (with_reducible refine (prefix_Resolve.calls kj38 _ _ t264 x18_38 false t280 t281 t282 _ ?side1 ?side2 ?side3 A43.out).mono ?_); (case side1 => refine Glob.below HG.out ?_; repeat (first | (with_reducible first | exact HB.out | apply below_alloc | apply pw_below_drewN | apply below_drew1))); (case side2 => repeat (first | exact (Kd.R_reads' HO_7.out).2.2 | (with_reducible refine Kd.C_alloc ?_ _) | (with_reducible refine Kd.C_drewN ?_ _) | (with_reducible refine Kd.C_drew ?_))); (case side3 => exact (Kd.R_reads' HO_7.out).2.1); rintro e w52 ⟨rfl, hb⟩; have n0_ := Aside0.mk (Kd.R_below (by (with_reducible repeat (first | apply Kd.R_alloc | apply Kd.R_drewN | apply Kd.R_drew)); exact HO_7.out) hb); have n1_ := Aside0.mk (below_step (by repeat (first | (with_reducible first | exact HB.out | apply below_alloc | apply pw_below_drewN | apply below_drew1))) hb); clear HO_7; clear HB; have HO_7 := n0_; have HB := n1_; clear n0_ n1_; (try clear hb); (try clear hb2); (try clear hk); (try clear hi)) | (go_at_call 15; (with_reducible refine (prefix_Split.calls kj38 x18_38 t283 t284 t285 _ ?side1 A44.out).mono ?_); (case side1 => refine Glob.below HG.out ?_; repeat (first | (with_reducible first | exact HB.out | apply below_alloc | apply pw_below_drewN | apply below_drew1))); rintro e w53 ⟨rfl, hb⟩; have n0_ := Aside0.mk (Kd.R_below (by (with_reducible repeat (first | apply Kd.R_alloc | apply Kd.R_drewN | apply Kd.R_drew)); exact HO_7.out) hb); have n1_ := Aside0.mk (below_step (by repeat (first | (with_reducible first | exact HB.out | apply below_alloc | apply pw_below_drewN | apply below_drew1))) hb); clear HO_7; clear HB; have HO_7 := n0_; have HB := n1_; clear n0_ n1_; (try clear hb); (try clear hb2); (try clear hk); (try clear hi); have p286 : 0 ≤ (x15_5 : Int) := of_decide_eq_true (by first | (with_reducible assumption) | assumption); have q286 : x15_5 < (t264.length : Int) := of_decide_eq_true (by first | (with_reducible assumption) | assumption); obtain ⟨ad286, e286, hx286_0, hx286_1⟩ := at_T30 (Kd.R_reads' HO_7.out).2.2 x15_5 p286 q286; obtain rfl : ad278 = ad286 := (by injection e286); replace p286 := eq_true p286; replace q286 := eq_true q286))
                                                                      repeat (go_quiet (first | (go_at_call 17; (with_reducible refine (prefix_Resolve.calls kj38 _ _ t264 x18_38 false t280 t281 t282 _ ?side1 ?side2 ?side3 A43.out).mono ?_); (case side1 => refine Glob.below HG.out ?_; repeat (first | (with_reducible first | exact HB.out | apply below_alloc | apply pw_below_drewN | apply below_drew1))); (case side2 => repeat (first | exact (Kd.R_reads' HO_7.out).2.2 | (with_reducible refine Kd.C_alloc ?_ _) | (with_reducible refine Kd.C_drewN ?_ _) | (with_reducible refine Kd.C_drew ?_))); (case side3 => exact (Kd.R_reads' HO_7.out).2.1); rintro e w52 ⟨rfl, hb⟩; have n0_ := Aside0.mk (Kd.R_below (by (with_reducible repeat (first | apply Kd.R_alloc | apply Kd.R_drewN | apply Kd.R_drew)); exact HO_7.out) hb); have n1_ := Aside0.mk (below_step (by repeat (first | (with_reducible first | exact HB.out | apply below_alloc | apply pw_below_drewN | apply below_drew1))) hb); clear HO_7; clear HB; have HO_7 := n0_; have HB := n1_; clear n0_ n1_; (try clear hb); (try clear hb2); (try clear hk); (try clear hi)) | (go_at_call 15; (with_reducible refine (prefix_Split.calls kj38 x18_38 t283 t284 t285 _ ?side1 A44.out).mono ?_); (case side1 => refine Glob.below HG.out ?_; repeat (first | (with_reducible first | exact HB.out | apply below_alloc | apply pw_below_drewN | apply below_drew1))); rintro e w53 ⟨rfl, hb⟩; have n0_ := Aside0.mk (Kd.R_below (by (with_reducible repeat (first | apply Kd.R_alloc | apply Kd.R_drewN | apply Kd.R_drew)); exact HO_7.out) hb); have n1_ := Aside0.mk (below_step (by repeat (first | (with_reducible first | exact HB.out | apply below_alloc | apply pw_below_drewN | apply below_drew1))) hb); clear HO_7; clear HB; have HO_7 := n0_; have HB := n1_; clear n0_ n1_; (try clear hb); (try clear hb2); (try clear hk); (try clear hi); have p286 : 0 ≤ (x15_5 : Int) := of_decide_eq_true (by first | (with_reducible assumption) | assumption); have q286 : x15_5 < (t264.length : Int) := of_decide_eq_true (by first | (with_reducible assumption) | assumption); obtain ⟨ad286, e286, hx286_0, hx286_1⟩ := at_T30 (Kd.R_reads' HO_7.out).2.2 x15_5 p286 q286; obtain rfl : ad278 = ad286 := (by injection e286); replace p286 := eq_true p286; replace q286 := eq_true q286)); try go_wp2_with (first | (go_at_call 17; (with_reducible refine (prefix_Resolve.calls kj38 _ _ t264 x18_38 false t280 t281 t282 _ ?side1 ?side2 ?side3 A43.out).mono ?_); (case side1 => refine Glob.below HG.out ?_; repeat (first | (with_reducible first | exact HB.out | apply below_alloc | apply pw_below_drewN | apply below_drew1))); (case side2 => repeat (first | exact (Kd.R_reads' HO_7.out).2.2 | (with_reducible refine Kd.C_alloc ?_ _) | (with_reducible refine Kd.C_drewN ?_ _) | (with_reducible refine Kd.C_drew ?_))); (case side3 => exact (Kd.R_reads' HO_7.out).2.1); rintro e w52 ⟨rfl, hb⟩; have n0_ := Aside0.mk (Kd.R_below (by (with_reducible repeat (first | apply Kd.R_alloc | apply Kd.R_drewN | apply Kd.R_drew)); exact HO_7.out) hb); have n1_ := Aside0.mk (below_step (by repeat (first | (with_reducible first | exact HB.out | apply below_alloc | apply pw_below_drewN | apply below_drew1))) hb); clear HO_7; clear HB; have HO_7 := n0_; have HB := n1_; clear n0_ n1_; (try clear hb); (try clear hb2); (try clear hk); (try clear hi)) | (go_at_call 15; (with_reducible refine (prefix_Split.calls kj38 x18_38 t283 t284 t285 _ ?side1 A44.out).mono ?_); (case side1 => refine Glob.below HG.out ?_; repeat (first | (with_reducible first | exact HB.out | apply below_alloc | apply pw_below_drewN | apply below_drew1))); rintro e w53 ⟨rfl, hb⟩; have n0_ := Aside0.mk (Kd.R_below (by (with_reducible repeat (first | apply Kd.R_alloc | apply Kd.R_drewN | apply Kd.R_drew)); exact HO_7.out) hb); have n1_ := Aside0.mk (below_step (by repeat (first | (with_reducible first | exact HB.out | apply below_alloc | apply pw_below_drewN | apply below_drew1))) hb); clear HO_7; clear HB; have HO_7 := n0_; have HB := n1_; clear n0_ n1_; (try clear hb); (try clear hb2); (try clear hk); (try clear hi); have p286 : 0 ≤ (x15_5 : Int) := of_decide_eq_true (by first | (with_reducible assumption) | assumption); have q286 : x15_5 < (t264.length : Int) := of_decide_eq_true (by first | (with_reducible assumption) | assumption); obtain ⟨ad286, e286, hx286_0, hx286_1⟩ := at_T30 (Kd.R_reads' HO_7.out).2.2 x15_5 p286 q286; obtain rfl : ad278 = ad286 := (by injection e286); replace p286 := eq_true p286; replace q286 := eq_true q286)))
                                                                      go_roundg kj38
                                                                      case measure => have := HJ4.out; have := HK2.out; have := HK3.out; have := HJ17.out; have := HK5.out; have := HJ28.out; have := HK7.out; have := HJ38.out; omega
                                                                      case rel => exact ⟨(wrap64 (x15_5 + 1)), (by first | rfl | (simp; done) | (simp [*]; done)), H', ⟨by have := HJ4.out; have := HK2.out; have := HK3.out; have := HJ17.out; have := HK5.out; have := HJ28.out; have := HK7.out; have := HJ38.out; omega⟩, ⟨by (with_reducible repeat (first | apply Kd.R_alloc | apply Kd.R_drewN | apply Kd.R_drew)); exact HO_7.out⟩, ⟨by repeat (first | (with_reducible first | exact HB.out | apply below_alloc | apply pw_below_drewN | apply below_drew1))⟩⟩
                                                                    · rw [if_neg c51] at H
                                                                      have c51b0 : (t280.toList == ((rd_T30 t264 x15_5).f1).toList) = false := beq_eq_false_iff_ne.mpr c51
                                                                      have c51b1 : (t280.toList != ((rd_T30 t264 x15_5).f1).toList) = true := bne_iff_ne.mpr c51
                                                                      obtain rfl := Option.some.inj H
                                                                      go_wp2_with (first | (go_at_call 17; (with_reducible refine (prefix_Resolve.calls kj38 _ _ t264 x18_38 false t280 t281 t282 _ ?side1 ?side2 ?side3 A43.out).mono ?_); (case side1 => refine Glob.below HG.out ?_; repeat (first | (with_reducible first | exact HB.out | apply below_alloc | apply pw_below_drewN | apply below_drew1))); (case side2 => repeat (first | exact (Kd.R_reads' HO_7.out).2.2 | (with_reducible refine Kd.C_alloc ?_ _) | (with_reducible refine Kd.C_drewN ?_ _) | (with_reducible refine Kd.C_drew ?_))); (case side3 => exact (Kd.R_reads' HO_7.out).2.1); rintro e w54 ⟨rfl, hb⟩; have n0_ := Aside0.mk (Kd.R_below (by (with_reducible repeat (first | apply Kd.R_alloc | apply Kd.R_drewN | apply Kd.R_drew)); exact HO_7.out) hb); have n1_ := Aside0.mk (below_step (by repeat (first | (with_reducible first | exact HB.out | apply below_alloc | apply pw_below_drewN | apply below_drew1))) hb); clear HO_7; clear HB; have HO_7 := n0_; have HB := n1_; clear n0_ n1_; (try clear hb); (try clear hb2); (try clear hk); (try clear hi)) | (go_at_call 15; (with_reducible refine (prefix_Split.calls kj38 x18_38 t283 t284 t285 _ ?side1 A44.out).mono ?_); (case side1 => refine Glob.below HG.out ?_; repeat (first | (with_reducible first | exact HB.out | apply below_alloc | apply pw_below_drewN | apply below_drew1))); rintro e w55 ⟨rfl, hb⟩; have n0_ := Aside0.mk (Kd.R_below (by (with_reducible repeat (first | apply Kd.R_alloc | apply Kd.R_drewN | apply Kd.R_drew)); exact HO_7.out) hb); have n1_ := Aside0.mk (below_step (by repeat (first | (with_reducible first | exact HB.out | apply below_alloc | apply pw_below_drewN | apply below_drew1))) hb); clear HO_7; clear HB; have HO_7 := n0_; have HB := n1_; clear n0_ n1_; (try clear hb); (try clear hb2); (try clear hk); (try clear hi); have p286 : 0 ≤ (x15_5 : Int) := of_decide_eq_true (by first | (with_reducible assumption) | assumption); have q286 : x15_5 < (t264.length : Int) := of_decide_eq_true (by first | (with_reducible assumption) | assumption); obtain ⟨ad286, e286, hx286_0, hx286_1⟩ := at_T30 (Kd.R_reads' HO_7.out).2.2 x15_5 p286 q286; obtain rfl : ad278 = ad286 := (by injection e286); replace p286 := eq_true p286; replace q286 := eq_true q286))
                                                                      repeat (go_quiet (first | (go_at_call 17; (with_reducible refine (prefix_Resolve.calls kj38 _ _ t264 x18_38 false t280 t281 t282 _ ?side1 ?side2 ?side3 A43.out).mono ?_); (case side1 => refine Glob.below HG.out ?_; repeat (first | (with_reducible first | exact HB.out | apply below_alloc | apply pw_below_drewN | apply below_drew1))); (case side2 => repeat (first | exact (Kd.R_reads' HO_7.out).2.2 | (with_reducible refine Kd.C_alloc ?_ _) | (with_reducible refine Kd.C_drewN ?_ _) | (with_reducible refine Kd.C_drew ?_))); (case side3 => exact (Kd.R_reads' HO_7.out).2.1); rintro e w54 ⟨rfl, hb⟩; have n0_ := Aside0.mk (Kd.R_below (by (with_reducible repeat (first | apply Kd.R_alloc | apply Kd.R_drewN | apply Kd.R_drew)); exact HO_7.out) hb); have n1_ := Aside0.mk (below_step (by repeat (first | (with_reducible first | exact HB.out | apply below_alloc | apply pw_below_drewN | apply below_drew1))) hb); clear HO_7; clear HB; have HO_7 := n0_; have HB := n1_; clear n0_ n1_; (try clear hb); (try clear hb2); (try clear hk); (try clear hi)) | (go_at_call 15; (with_reducible refine (prefix_Split.calls kj38 x18_38 t283 t284 t285 _ ?side1 A44.out).mono ?_); (case side1 => refine Glob.below HG.out ?_; repeat (first | (with_reducible first | exact HB.out | apply below_alloc | apply pw_below_drewN | apply below_drew1))); rintro e w55 ⟨rfl, hb⟩; have n0_ := Aside0.mk (Kd.R_below (by (with_reducible repeat (first | apply Kd.R_alloc | apply Kd.R_drewN | apply Kd.R_drew)); exact HO_7.out) hb); have n1_ := Aside0.mk (below_step (by repeat (first | (with_reducible first | exact HB.out | apply below_alloc | apply pw_below_drewN | apply below_drew1))) hb); clear HO_7; clear HB; have HO_7 := n0_; have HB := n1_; clear n0_ n1_; (try clear hb); (try clear hb2); (try clear hk); (try clear hi); have p286 : 0 ≤ (x15_5 : Int) := of_decide_eq_true (by first | (with_reducible assumption) | assumption); have q286 : x15_5 < (t264.length : Int) := of_decide_eq_true (by first | (with_reducible assumption) | assumption); obtain ⟨ad286, e286, hx286_0, hx286_1⟩ := at_T30 (Kd.R_reads' HO_7.out).2.2 x15_5 p286 q286; obtain rfl : ad278 = ad286 := (by injection e286); replace p286 := eq_true p286; replace q286 := eq_true q286)); try go_wp2_with (first | (go_at_call 17; (with_reducible refine (prefix_Resolve.calls kj38 _ _ t264 x18_38 false t280 t281 t282 _ ?side1 ?side2 ?side3 A43.out).mono ?_); (case side1 => refine Glob.below HG.out ?_; repeat (first | (with_reducible first | exact HB.out | apply below_alloc | apply pw_below_drewN | apply below_drew1))); (case side2 => repeat (first | exact (Kd.R_reads' HO_7.out).2.2 | (with_reducible refine Kd.C_alloc ?_ _) | (with_reducible refine Kd.C_drewN ?_ _) | (with_reducible refine Kd.C_drew ?_))); (case side3 => exact (Kd.R_reads' HO_7.out).2.1); rintro e w54 ⟨rfl, hb⟩; have n0_ := Aside0.mk (Kd.R_below (by (with_reducible repeat (first | apply Kd.R_alloc | apply Kd.R_drewN | apply Kd.R_drew)); exact HO_7.out) hb); have n1_ := Aside0.mk (below_step (by repeat (first | (with_reducible first | exact HB.out | apply below_alloc | apply pw_below_drewN | apply below_drew1))) hb); clear HO_7; clear HB; have HO_7 := n0_; have HB := n1_; clear n0_ n1_; (try clear hb); (try clear hb2); (try clear hk); (try clear hi)) | (go_at_call 15; (with_reducible refine (prefix_Split.calls kj38 x18_38 t283 t284 t285 _ ?side1 A44.out).mono ?_); (case side1 => refine Glob.below HG.out ?_; repeat (first | (with_reducible first | exact HB.out | apply below_alloc | apply pw_below_drewN | apply below_drew1))); rintro e w55 ⟨rfl, hb⟩; have n0_ := Aside0.mk (Kd.R_below (by (with_reducible repeat (first | apply Kd.R_alloc | apply Kd.R_drewN | apply Kd.R_drew)); exact HO_7.out) hb); have n1_ := Aside0.mk (below_step (by repeat (first | (with_reducible first | exact HB.out | apply below_alloc | apply pw_below_drewN | apply below_drew1))) hb); clear HO_7; clear HB; have HO_7 := n0_; have HB := n1_; clear n0_ n1_; (try clear hb); (try clear hb2); (try clear hk); (try clear hi); have p286 : 0 ≤ (x15_5 : Int) := of_decide_eq_true (by first | (with_reducible assumption) | assumption); have q286 : x15_5 < (t264.length : Int) := of_decide_eq_true (by first | (with_reducible assumption) | assumption); obtain ⟨ad286, e286, hx286_0, hx286_1⟩ := at_T30 (Kd.R_reads' HO_7.out).2.2 x15_5 p286 q286; obtain rfl : ad278 = ad286 := (by injection e286); replace p286 := eq_true p286; replace q286 := eq_true q286)))
                                                                      go_ret
                                                                      exact ⟨by first | rfl | (simp [*] <;> rfl), by repeat (first | (with_reducible first | exact HB.out | apply below_alloc | apply pw_below_drewN | apply below_drew1))⟩
                                                                  · rw [if_neg c50] at H
                                                                    exact absurd H (by simp)
                                                                · rw [if_neg c49] at H
                                                                  exact absurd H (by simp)
                                                              · rw [if_neg c48] at H
                                                                have c48b0 : (t282 == 0) = false := beq_eq_false_iff_ne.mpr c48
                                                                have c48b1 : (t282 != 0) = true := bne_iff_ne.mpr c48
                                                                obtain rfl := Option.some.inj H
                                                                go_wp2_with (first | (go_at_call 17; (with_reducible refine (prefix_Resolve.calls kj38 _ _ t264 x18_38 false t280 t281 t282 _ ?side1 ?side2 ?side3 A43.out).mono ?_); (case side1 => refine Glob.below HG.out ?_; repeat (first | (with_reducible first | exact HB.out | apply below_alloc | apply pw_below_drewN | apply below_drew1))); (case side2 => repeat (first | exact (Kd.R_reads' HO_7.out).2.2 | (with_reducible refine Kd.C_alloc ?_ _) | (with_reducible refine Kd.C_drewN ?_ _) | (with_reducible refine Kd.C_drew ?_))); (case side3 => exact (Kd.R_reads' HO_7.out).2.1); rintro e w56 ⟨rfl, hb⟩; have n0_ := Aside0.mk (Kd.R_below (by (with_reducible repeat (first | apply Kd.R_alloc | apply Kd.R_drewN | apply Kd.R_drew)); exact HO_7.out) hb); have n1_ := Aside0.mk (below_step (by repeat (first | (with_reducible first | exact HB.out | apply below_alloc | apply pw_below_drewN | apply below_drew1))) hb); clear HO_7; clear HB; have HO_7 := n0_; have HB := n1_; clear n0_ n1_; (try clear hb); (try clear hb2); (try clear hk); (try clear hi)) | (go_at_call 15; (with_reducible refine (prefix_Split.calls kj38 x18_38 t283 t284 t285 _ ?side1 A44.out).mono ?_); (case side1 => refine Glob.below HG.out ?_; repeat (first | (with_reducible first | exact HB.out | apply below_alloc | apply pw_below_drewN | apply below_drew1))); rintro e w57 ⟨rfl, hb⟩; have n0_ := Aside0.mk (Kd.R_below (by (with_reducible repeat (first | apply Kd.R_alloc | apply Kd.R_drewN | apply Kd.R_drew)); exact HO_7.out) hb); have n1_ := Aside0.mk (below_step (by repeat (first | (with_reducible first | exact HB.out | apply below_alloc | apply pw_below_drewN | apply below_drew1))) hb); clear HO_7; clear HB; have HO_7 := n0_; have HB := n1_; clear n0_ n1_; (try clear hb); (try clear hb2); (try clear hk); (try clear hi)))
                                                                repeat (go_quiet (first | (go_at_call 17; (with_reducible refine (prefix_Resolve.calls kj38 _ _ t264 x18_38 false t280 t281 t282 _ ?side1 ?side2 ?side3 A43.out).mono ?_); (case side1 => refine Glob.below HG.out ?_; repeat (first | (with_reducible first | exact HB.out | apply below_alloc | apply pw_below_drewN | apply below_drew1))); (case side2 => repeat (first | exact (Kd.R_reads' HO_7.out).2.2 | (with_reducible refine Kd.C_alloc ?_ _) | (with_reducible refine Kd.C_drewN ?_ _) | (with_reducible refine Kd.C_drew ?_))); (case side3 => exact (Kd.R_reads' HO_7.out).2.1); rintro e w56 ⟨rfl, hb⟩; have n0_ := Aside0.mk (Kd.R_below (by (with_reducible repeat (first | apply Kd.R_alloc | apply Kd.R_drewN | apply Kd.R_drew)); exact HO_7.out) hb); have n1_ := Aside0.mk (below_step (by repeat (first | (with_reducible first | exact HB.out | apply below_alloc | apply pw_below_drewN | apply below_drew1))) hb); clear HO_7; clear HB; have HO_7 := n0_; have HB := n1_; clear n0_ n1_; (try clear hb); (try clear hb2); (try clear hk); (try clear hi)) | (go_at_call 15; (with_reducible refine (prefix_Split.calls kj38 x18_38 t283 t284 t285 _ ?side1 A44.out).mono ?_); (case side1 => refine Glob.below HG.out ?_; repeat (first | (with_reducible first | exact HB.out | apply below_alloc | apply pw_below_drewN | apply below_drew1))); rintro e w57 ⟨rfl, hb⟩; have n0_ := Aside0.mk (Kd.R_below (by (with_reducible repeat (first | apply Kd.R_alloc | apply Kd.R_drewN | apply Kd.R_drew)); exact HO_7.out) hb); have n1_ := Aside0.mk (below_step (by repeat (first | (with_reducible first | exact HB.out | apply below_alloc | apply pw_below_drewN | apply below_drew1))) hb); clear HO_7; clear HB; have HO_7 := n0_; have HB := n1_; clear n0_ n1_; (try clear hb); (try clear hb2); (try clear hk); (try clear hi))); try go_wp2_with (first | (go_at_call 17; (with_reducible refine (prefix_Resolve.calls kj38 _ _ t264 x18_38 false t280 t281 t282 _ ?side1 ?side2 ?side3 A43.out).mono ?_); (case side1 => refine Glob.below HG.out ?_; repeat (first | (with_reducible first | exact HB.out | apply below_alloc | apply pw_below_drewN | apply below_drew1))); (case side2 => repeat (first | exact (Kd.R_reads' HO_7.out).2.2 | (with_reducible refine Kd.C_alloc ?_ _) | (with_reducible refine Kd.C_drewN ?_ _) | (with_reducible refine Kd.C_drew ?_))); (case side3 => exact (Kd.R_reads' HO_7.out).2.1); rintro e w56 ⟨rfl, hb⟩; have n0_ := Aside0.mk (Kd.R_below (by (with_reducible repeat (first | apply Kd.R_alloc | apply Kd.R_drewN | apply Kd.R_drew)); exact HO_7.out) hb); have n1_ := Aside0.mk (below_step (by repeat (first | (with_reducible first | exact HB.out | apply below_alloc | apply pw_below_drewN | apply below_drew1))) hb); clear HO_7; clear HB; have HO_7 := n0_; have HB := n1_; clear n0_ n1_; (try clear hb); (try clear hb2); (try clear hk); (try clear hi)) | (go_at_call 15; (with_reducible refine (prefix_Split.calls kj38 x18_38 t283 t284 t285 _ ?side1 A44.out).mono ?_); (case side1 => refine Glob.below HG.out ?_; repeat (first | (with_reducible first | exact HB.out | apply below_alloc | apply pw_below_drewN | apply below_drew1))); rintro e w57 ⟨rfl, hb⟩; have n0_ := Aside0.mk (Kd.R_below (by (with_reducible repeat (first | apply Kd.R_alloc | apply Kd.R_drewN | apply Kd.R_drew)); exact HO_7.out) hb); have n1_ := Aside0.mk (below_step (by repeat (first | (with_reducible first | exact HB.out | apply below_alloc | apply pw_below_drewN | apply below_drew1))) hb); clear HO_7; clear HB; have HO_7 := n0_; have HB := n1_; clear n0_ n1_; (try clear hb); (try clear hb2); (try clear hk); (try clear hi))))
                                                                go_ret
                                                                exact ⟨by first | rfl | (simp [*] <;> rfl), by repeat (first | (with_reducible first | exact HB.out | apply below_alloc | apply pw_below_drewN | apply below_drew1))⟩
                                                            · rw [if_neg c47] at H
                                                              have c47b0 : (t281.toList == a1.toList) = false := beq_eq_false_iff_ne.mpr c47
                                                              have c47b1 : (t281.toList != a1.toList) = true := bne_iff_ne.mpr c47
                                                              have H' := Aside0.mk H
                                                              clear H
                                                              go_wp2_with (first | (go_at_call 17; (with_reducible refine (prefix_Resolve.calls kj38 _ _ t264 x18_38 false t280 t281 t282 _ ?side1 ?side2 ?side3 A43.out).mono ?_); (case side1 => refine Glob.below HG.out ?_; repeat (first | (with_reducible first | exact HB.out | apply below_alloc | apply pw_below_drewN | apply below_drew1))); (case side2 => repeat (first | exact (Kd.R_reads' HO_7.out).2.2 | (with_reducible refine Kd.C_alloc ?_ _) | (with_reducible refine Kd.C_drewN ?_ _) | (with_reducible refine Kd.C_drew ?_))); (case side3 => exact (Kd.R_reads' HO_7.out).2.1); rintro e w58 ⟨rfl, hb⟩; have n0_ := Aside0.mk (Kd.R_below (by (with_reducible repeat (first | apply Kd.R_alloc | apply Kd.R_drewN | apply Kd.R_drew)); exact HO_7.out) hb); have n1_ := Aside0.mk (below_step (by repeat (first | (with_reducible first | exact HB.out | apply below_alloc | apply pw_below_drewN | apply below_drew1))) hb); clear HO_7; clear HB; have HO_7 := n0_; have HB := n1_; clear n0_ n1_; (try clear hb); (try clear hb2); (try clear hk); (try clear hi)) | (go_at_call 15; (with_reducible refine (prefix_Split.calls kj38 x18_38 t283 t284 t285 _ ?side1 A44.out).mono ?_); (case side1 => refine Glob.below HG.out ?_; repeat (first | (with_reducible first | exact HB.out | apply below_alloc | apply pw_below_drewN | apply below_drew1))); rintro e w59 ⟨rfl, hb⟩; have n0_ := Aside0.mk (Kd.R_below (by (with_reducible repeat (first | apply Kd.R_alloc | apply Kd.R_drewN | apply Kd.R_drew)); exact HO_7.out) hb); have n1_ := Aside0.mk (below_step (by repeat (first | (with_reducible first | exact HB.out | apply below_alloc | apply pw_below_drewN | apply below_drew1))) hb); clear HO_7; clear HB; have HO_7 := n0_; have HB := n1_; clear n0_ n1_; (try clear hb); (try clear hb2); (try clear hk); (try clear hi)))
                                                              repeat (go_quiet (first | (go_at_call 17; (with_reducible refine (prefix_Resolve.calls kj38 _ _ t264 x18_38 false t280 t281 t282 _ ?side1 ?side2 ?side3 A43.out).mono ?_); (case side1 => refine Glob.below HG.out ?_; repeat (first | (with_reducible first | exact HB.out | apply below_alloc | apply pw_below_drewN | apply below_drew1))); (case side2 => repeat (first | exact (Kd.R_reads' HO_7.out).2.2 | (with_reducible refine Kd.C_alloc ?_ _) | (with_reducible refine Kd.C_drewN ?_ _) | (with_reducible refine Kd.C_drew ?_))); (case side3 => exact (Kd.R_reads' HO_7.out).2.1); rintro e w58 ⟨rfl, hb⟩; have n0_ := Aside0.mk (Kd.R_below (by (with_reducible repeat (first | apply Kd.R_alloc | apply Kd.R_drewN | apply Kd.R_drew)); exact HO_7.out) hb); have n1_ := Aside0.mk (below_step (by repeat (first | (with_reducible first | exact HB.out | apply below_alloc | apply pw_below_drewN | apply below_drew1))) hb); clear HO_7; clear HB; have HO_7 := n0_; have HB := n1_; clear n0_ n1_; (try clear hb); (try clear hb2); (try clear hk); (try clear hi)) | (go_at_call 15; (with_reducible refine (prefix_Split.calls kj38 x18_38 t283 t284 t285 _ ?side1 A44.out).mono ?_); (case side1 => refine Glob.below HG.out ?_; repeat (first | (with_reducible first | exact HB.out | apply below_alloc | apply pw_below_drewN | apply below_drew1))); rintro e w59 ⟨rfl, hb⟩; have n0_ := Aside0.mk (Kd.R_below (by (with_reducible repeat (first | apply Kd.R_alloc | apply Kd.R_drewN | apply Kd.R_drew)); exact HO_7.out) hb); have n1_ := Aside0.mk (below_step (by repeat (first | (with_reducible first | exact HB.out | apply below_alloc | apply pw_below_drewN | apply below_drew1))) hb); clear HO_7; clear HB; have HO_7 := n0_; have HB := n1_; clear n0_ n1_; (try clear hb); (try clear hb2); (try clear hk); (try clear hi))); try go_wp2_with (first | (go_at_call 17; (with_reducible refine (prefix_Resolve.calls kj38 _ _ t264 x18_38 false t280 t281 t282 _ ?side1 ?side2 ?side3 A43.out).mono ?_); (case side1 => refine Glob.below HG.out ?_; repeat (first | (with_reducible first | exact HB.out | apply below_alloc | apply pw_below_drewN | apply below_drew1))); (case side2 => repeat (first | exact (Kd.R_reads' HO_7.out).2.2 | (with_reducible refine Kd.C_alloc ?_ _) | (with_reducible refine Kd.C_drewN ?_ _) | (with_reducible refine Kd.C_drew ?_))); (case side3 => exact (Kd.R_reads' HO_7.out).2.1); rintro e w58 ⟨rfl, hb⟩; have n0_ := Aside0.mk (Kd.R_below (by (with_reducible repeat (first | apply Kd.R_alloc | apply Kd.R_drewN | apply Kd.R_drew)); exact HO_7.out) hb); have n1_ := Aside0.mk (below_step (by repeat (first | (with_reducible first | exact HB.out | apply below_alloc | apply pw_below_drewN | apply below_drew1))) hb); clear HO_7; clear HB; have HO_7 := n0_; have HB := n1_; clear n0_ n1_; (try clear hb); (try clear hb2); (try clear hk); (try clear hi)) | (go_at_call 15; (with_reducible refine (prefix_Split.calls kj38 x18_38 t283 t284 t285 _ ?side1 A44.out).mono ?_); (case side1 => refine Glob.below HG.out ?_; repeat (first | (with_reducible first | exact HB.out | apply below_alloc | apply pw_below_drewN | apply below_drew1))); rintro e w59 ⟨rfl, hb⟩; have n0_ := Aside0.mk (Kd.R_below (by (with_reducible repeat (first | apply Kd.R_alloc | apply Kd.R_drewN | apply Kd.R_drew)); exact HO_7.out) hb); have n1_ := Aside0.mk (below_step (by repeat (first | (with_reducible first | exact HB.out | apply below_alloc | apply pw_below_drewN | apply below_drew1))) hb); clear HO_7; clear HB; have HO_7 := n0_; have HB := n1_; clear n0_ n1_; (try clear hb); (try clear hb2); (try clear hk); (try clear hi))))
                                                              go_roundg kj38
                                                              case measure => have := HJ4.out; have := HK2.out; have := HK3.out; have := HJ17.out; have := HK5.out; have := HJ28.out; have := HK7.out; have := HJ38.out; omega
                                                              case rel => exact ⟨(wrap64 (x15_5 + 1)), (by first | rfl | (simp; done) | (simp [*]; done)), H', ⟨by have := HJ4.out; have := HK2.out; have := HK3.out; have := HJ17.out; have := HK5.out; have := HJ28.out; have := HK7.out; have := HJ38.out; omega⟩, ⟨by (with_reducible repeat (first | apply Kd.R_alloc | apply Kd.R_drewN | apply Kd.R_drew)); exact HO_7.out⟩, ⟨by repeat (first | (with_reducible first | exact HB.out | apply below_alloc | apply pw_below_drewN | apply below_drew1))⟩⟩
                                                          · rw [if_neg c46] at H
                                                            have c46b0 : (t285 == 0) = false := beq_eq_false_iff_ne.mpr c46
                                                            have c46b1 : (t285 != 0) = true := bne_iff_ne.mpr c46
                                                            have H' := Aside0.mk H
                                                            clear H
                                                            go_wp2_with (first | (go_at_call 17; (with_reducible refine (prefix_Resolve.calls kj38 _ _ t264 x18_38 false t280 t281 t282 _ ?side1 ?side2 ?side3 A43.out).mono ?_); (case side1 => refine Glob.below HG.out ?_; repeat (first | (with_reducible first | exact HB.out | apply below_alloc | apply pw_below_drewN | apply below_drew1))); (case side2 => repeat (first | exact (Kd.R_reads' HO_7.out).2.2 | (with_reducible refine Kd.C_alloc ?_ _) | (with_reducible refine Kd.C_drewN ?_ _) | (with_reducible refine Kd.C_drew ?_))); (case side3 => exact (Kd.R_reads' HO_7.out).2.1); rintro e w60 ⟨rfl, hb⟩; have n0_ := Aside0.mk (Kd.R_below (by (with_reducible repeat (first | apply Kd.R_alloc | apply Kd.R_drewN | apply Kd.R_drew)); exact HO_7.out) hb); have n1_ := Aside0.mk (below_step (by repeat (first | (with_reducible first | exact HB.out | apply below_alloc | apply pw_below_drewN | apply below_drew1))) hb); clear HO_7; clear HB; have HO_7 := n0_; have HB := n1_; clear n0_ n1_; (try clear hb); (try clear hb2); (try clear hk); (try clear hi)) | (go_at_call 15; (with_reducible refine (prefix_Split.calls kj38 x18_38 t283 t284 t285 _ ?side1 A44.out).mono ?_); (case side1 => refine Glob.below HG.out ?_; repeat (first | (with_reducible first | exact HB.out | apply below_alloc | apply pw_below_drewN | apply below_drew1))); rintro e w61 ⟨rfl, hb⟩; have n0_ := Aside0.mk (Kd.R_below (by (with_reducible repeat (first | apply Kd.R_alloc | apply Kd.R_drewN | apply Kd.R_drew)); exact HO_7.out) hb); have n1_ := Aside0.mk (below_step (by repeat (first | (with_reducible first | exact HB.out | apply below_alloc | apply pw_below_drewN | apply below_drew1))) hb); clear HO_7; clear HB; have HO_7 := n0_; have HB := n1_; clear n0_ n1_; (try clear hb); (try clear hb2); (try clear hk); (try clear hi)))
                                                            repeat (go_quiet (first | (go_at_call 17; (with_reducible refine (prefix_Resolve.calls kj38 _ _ t264 x18_38 false t280 t281 t282 _ ?side1 ?side2 ?side3 A43.out).mono ?_); (case side1 => refine Glob.below HG.out ?_; repeat (first | (with_reducible first | exact HB.out | apply below_alloc | apply pw_below_drewN | apply below_drew1))); (case side2 => repeat (first | exact (Kd.R_reads' HO_7.out).2.2 | (with_reducible refine Kd.C_alloc ?_ _) | (with_reducible refine Kd.C_drewN ?_ _) | (with_reducible refine Kd.C_drew ?_))); (case side3 => exact (Kd.R_reads' HO_7.out).2.1); rintro e w60 ⟨rfl, hb⟩; have n0_ := Aside0.mk (Kd.R_below (by (with_reducible repeat (first | apply Kd.R_alloc | apply Kd.R_drewN | apply Kd.R_drew)); exact HO_7.out) hb); have n1_ := Aside0.mk (below_step (by repeat (first | (with_reducible first | exact HB.out | apply below_alloc | apply pw_below_drewN | apply below_drew1))) hb); clear HO_7; clear HB; have HO_7 := n0_; have HB := n1_; clear n0_ n1_; (try clear hb); (try clear hb2); (try clear hk); (try clear hi)) | (go_at_call 15; (with_reducible refine (prefix_Split.calls kj38 x18_38 t283 t284 t285 _ ?side1 A44.out).mono ?_); (case side1 => refine Glob.below HG.out ?_; repeat (first | (with_reducible first | exact HB.out | apply below_alloc | apply pw_below_drewN | apply below_drew1))); rintro e w61 ⟨rfl, hb⟩; have n0_ := Aside0.mk (Kd.R_below (by (with_reducible repeat (first | apply Kd.R_alloc | apply Kd.R_drewN | apply Kd.R_drew)); exact HO_7.out) hb); have n1_ := Aside0.mk (below_step (by repeat (first | (with_reducible first | exact HB.out | apply below_alloc | apply pw_below_drewN | apply below_drew1))) hb); clear HO_7; clear HB; have HO_7 := n0_; have HB := n1_; clear n0_ n1_; (try clear hb); (try clear hb2); (try clear hk); (try clear hi))); try go_wp2_with (first | (go_at_call 17; (with_reducible refine (prefix_Resolve.calls kj38 _ _ t264 x18_38 false t280 t281 t282 _ ?side1 ?side2 ?side3 A43.out).mono ?_); (case side1 => refine Glob.below HG.out ?_; repeat (first | (with_reducible first | exact HB.out | apply below_alloc | apply pw_below_drewN | apply below_drew1))); (case side2 => repeat (first | exact (Kd.R_reads' HO_7.out).2.2 | (with_reducible refine Kd.C_alloc ?_ _) | (with_reducible refine Kd.C_drewN ?_ _) | (with_reducible refine Kd.C_drew ?_))); (case side3 => exact (Kd.R_reads' HO_7.out).2.1); rintro e w60 ⟨rfl, hb⟩; have n0_ := Aside0.mk (Kd.R_below (by (with_reducible repeat (first | apply Kd.R_alloc | apply Kd.R_drewN | apply Kd.R_drew)); exact HO_7.out) hb); have n1_ := Aside0.mk (below_step (by repeat (first | (with_reducible first | exact HB.out | apply below_alloc | apply pw_below_drewN | apply below_drew1))) hb); clear HO_7; clear HB; have HO_7 := n0_; have HB := n1_; clear n0_ n1_; (try clear hb); (try clear hb2); (try clear hk); (try clear hi)) | (go_at_call 15; (with_reducible refine (prefix_Split.calls kj38 x18_38 t283 t284 t285 _ ?side1 A44.out).mono ?_); (case side1 => refine Glob.below HG.out ?_; repeat (first | (with_reducible first | exact HB.out | apply below_alloc | apply pw_below_drewN | apply below_drew1))); rintro e w61 ⟨rfl, hb⟩; have n0_ := Aside0.mk (Kd.R_below (by (with_reducible repeat (first | apply Kd.R_alloc | apply Kd.R_drewN | apply Kd.R_drew)); exact HO_7.out) hb); have n1_ := Aside0.mk (below_step (by repeat (first | (with_reducible first | exact HB.out | apply below_alloc | apply pw_below_drewN | apply below_drew1))) hb); clear HO_7; clear HB; have HO_7 := n0_; have HB := n1_; clear n0_ n1_; (try clear hb); (try clear hb2); (try clear hk); (try clear hi))))
                                                            go_roundg kj38
                                                            case measure => have := HJ4.out; have := HK2.out; have := HK3.out; have := HJ17.out; have := HK5.out; have := HJ28.out; have := HK7.out; have := HJ38.out; omega
                                                            case rel => exact ⟨(wrap64 (x15_5 + 1)), (by first | rfl | (simp; done) | (simp [*]; done)), H', ⟨by have := HJ4.out; have := HK2.out; have := HK3.out; have := HJ17.out; have := HK5.out; have := HJ28.out; have := HK7.out; have := HJ38.out; omega⟩, ⟨by (with_reducible repeat (first | apply Kd.R_alloc | apply Kd.R_drewN | apply Kd.R_drew)); exact HO_7.out⟩, ⟨by repeat (first | (with_reducible first | exact HB.out | apply below_alloc | apply pw_below_drewN | apply below_drew1))⟩⟩
                                                        · replace c45 := Bool.eq_false_iff.mpr c45
                                                          subst c45
                                                          have H1 : (broadsheetlaw08_PrefixBinds.l2 kj38 a1 true t264 t275 (wrap64 (x15_5 + 1))) = some r := by rw [if_neg (show ¬ (false = true) by decide)] at H; exact H
                                                          clear H
                                                          have H := H1
                                                          clear H1
                                                          have H' := Aside0.mk H
                                                          clear H
                                                          go_wp2_with (first | (go_at_call 17; (with_reducible refine (prefix_Resolve.calls kj38 _ _ t264 x18_38 false t280 t281 t282 _ ?side1 ?side2 ?side3 A43.out).mono ?_); (case side1 => refine Glob.below HG.out ?_; repeat (first | (with_reducible first | exact HB.out | apply below_alloc | apply pw_below_drewN | apply below_drew1))); (case side2 => repeat (first | exact (Kd.R_reads' HO_7.out).2.2 | (with_reducible refine Kd.C_alloc ?_ _) | (with_reducible refine Kd.C_drewN ?_ _) | (with_reducible refine Kd.C_drew ?_))); (case side3 => exact (Kd.R_reads' HO_7.out).2.1); rintro e w62 ⟨rfl, hb⟩; have n0_ := Aside0.mk (Kd.R_below (by (with_reducible repeat (first | apply Kd.R_alloc | apply Kd.R_drewN | apply Kd.R_drew)); exact HO_7.out) hb); have n1_ := Aside0.mk (below_step (by repeat (first | (with_reducible first | exact HB.out | apply below_alloc | apply pw_below_drewN | apply below_drew1))) hb); clear HO_7; clear HB; have HO_7 := n0_; have HB := n1_; clear n0_ n1_; (try clear hb); (try clear hb2); (try clear hk); (try clear hi)) | (go_at_call 15; (with_reducible refine (prefix_Split.calls kj38 x18_38 t283 t284 t285 _ ?side1 A44.out).mono ?_); (case side1 => refine Glob.below HG.out ?_; repeat (first | (with_reducible first | exact HB.out | apply below_alloc | apply pw_below_drewN | apply below_drew1))); rintro e w63 ⟨rfl, hb⟩; have n0_ := Aside0.mk (Kd.R_below (by (with_reducible repeat (first | apply Kd.R_alloc | apply Kd.R_drewN | apply Kd.R_drew)); exact HO_7.out) hb); have n1_ := Aside0.mk (below_step (by repeat (first | (with_reducible first | exact HB.out | apply below_alloc | apply pw_below_drewN | apply below_drew1))) hb); clear HO_7; clear HB; have HO_7 := n0_; have HB := n1_; clear n0_ n1_; (try clear hb); (try clear hb2); (try clear hk); (try clear hi)))
                                                          repeat (go_quiet (first | (go_at_call 17; (with_reducible refine (prefix_Resolve.calls kj38 _ _ t264 x18_38 false t280 t281 t282 _ ?side1 ?side2 ?side3 A43.out).mono ?_); (case side1 => refine Glob.below HG.out ?_; repeat (first | (with_reducible first | exact HB.out | apply below_alloc | apply pw_below_drewN | apply below_drew1))); (case side2 => repeat (first | exact (Kd.R_reads' HO_7.out).2.2 | (with_reducible refine Kd.C_alloc ?_ _) | (with_reducible refine Kd.C_drewN ?_ _) | (with_reducible refine Kd.C_drew ?_))); (case side3 => exact (Kd.R_reads' HO_7.out).2.1); rintro e w62 ⟨rfl, hb⟩; have n0_ := Aside0.mk (Kd.R_below (by (with_reducible repeat (first | apply Kd.R_alloc | apply Kd.R_drewN | apply Kd.R_drew)); exact HO_7.out) hb); have n1_ := Aside0.mk (below_step (by repeat (first | (with_reducible first | exact HB.out | apply below_alloc | apply pw_below_drewN | apply below_drew1))) hb); clear HO_7; clear HB; have HO_7 := n0_; have HB := n1_; clear n0_ n1_; (try clear hb); (try clear hb2); (try clear hk); (try clear hi)) | (go_at_call 15; (with_reducible refine (prefix_Split.calls kj38 x18_38 t283 t284 t285 _ ?side1 A44.out).mono ?_); (case side1 => refine Glob.below HG.out ?_; repeat (first | (with_reducible first | exact HB.out | apply below_alloc | apply pw_below_drewN | apply below_drew1))); rintro e w63 ⟨rfl, hb⟩; have n0_ := Aside0.mk (Kd.R_below (by (with_reducible repeat (first | apply Kd.R_alloc | apply Kd.R_drewN | apply Kd.R_drew)); exact HO_7.out) hb); have n1_ := Aside0.mk (below_step (by repeat (first | (with_reducible first | exact HB.out | apply below_alloc | apply pw_below_drewN | apply below_drew1))) hb); clear HO_7; clear HB; have HO_7 := n0_; have HB := n1_; clear n0_ n1_; (try clear hb); (try clear hb2); (try clear hk); (try clear hi))); try go_wp2_with (first | (go_at_call 17; (with_reducible refine (prefix_Resolve.calls kj38 _ _ t264 x18_38 false t280 t281 t282 _ ?side1 ?side2 ?side3 A43.out).mono ?_); (case side1 => refine Glob.below HG.out ?_; repeat (first | (with_reducible first | exact HB.out | apply below_alloc | apply pw_below_drewN | apply below_drew1))); (case side2 => repeat (first | exact (Kd.R_reads' HO_7.out).2.2 | (with_reducible refine Kd.C_alloc ?_ _) | (with_reducible refine Kd.C_drewN ?_ _) | (with_reducible refine Kd.C_drew ?_))); (case side3 => exact (Kd.R_reads' HO_7.out).2.1); rintro e w62 ⟨rfl, hb⟩; have n0_ := Aside0.mk (Kd.R_below (by (with_reducible repeat (first | apply Kd.R_alloc | apply Kd.R_drewN | apply Kd.R_drew)); exact HO_7.out) hb); have n1_ := Aside0.mk (below_step (by repeat (first | (with_reducible first | exact HB.out | apply below_alloc | apply pw_below_drewN | apply below_drew1))) hb); clear HO_7; clear HB; have HO_7 := n0_; have HB := n1_; clear n0_ n1_; (try clear hb); (try clear hb2); (try clear hk); (try clear hi)) | (go_at_call 15; (with_reducible refine (prefix_Split.calls kj38 x18_38 t283 t284 t285 _ ?side1 A44.out).mono ?_); (case side1 => refine Glob.below HG.out ?_; repeat (first | (with_reducible first | exact HB.out | apply below_alloc | apply pw_below_drewN | apply below_drew1))); rintro e w63 ⟨rfl, hb⟩; have n0_ := Aside0.mk (Kd.R_below (by (with_reducible repeat (first | apply Kd.R_alloc | apply Kd.R_drewN | apply Kd.R_drew)); exact HO_7.out) hb); have n1_ := Aside0.mk (below_step (by repeat (first | (with_reducible first | exact HB.out | apply below_alloc | apply pw_below_drewN | apply below_drew1))) hb); clear HO_7; clear HB; have HO_7 := n0_; have HB := n1_; clear n0_ n1_; (try clear hb); (try clear hb2); (try clear hk); (try clear hi))))
                                                          go_roundg kj38
                                                          case measure => have := HJ4.out; have := HK2.out; have := HK3.out; have := HJ17.out; have := HK5.out; have := HJ28.out; have := HK7.out; have := HJ38.out; omega
                                                          case rel => exact ⟨(wrap64 (x15_5 + 1)), (by first | rfl | (simp; done) | (simp [*]; done)), H', ⟨by have := HJ4.out; have := HK2.out; have := HK3.out; have := HJ17.out; have := HK5.out; have := HJ28.out; have := HK7.out; have := HJ38.out; omega⟩, ⟨by (with_reducible repeat (first | apply Kd.R_alloc | apply Kd.R_drewN | apply Kd.R_drew)); exact HO_7.out⟩, ⟨by repeat (first | (with_reducible first | exact HB.out | apply below_alloc | apply pw_below_drewN | apply below_drew1))⟩⟩
                                                  · rw [if_neg c38] at H
                                                    exact absurd H (by simp)
                                                · rw [if_neg c37] at H
                                                  exact absurd H (by simp)
                                        · replace c31 := Bool.eq_false_iff.mpr c31
                                          subst c31
                                          have H1 : (some true) = some r := by rw [if_neg (show ¬ (false = true) by decide)] at H; exact H
                                          clear H
                                          have H := H1
                                          clear H1
                                          obtain rfl := Option.some.inj H
                                          go_wp2
                                          repeat (go_quiet (fail); try go_wp2)
                                          go_ret
                                          exact ⟨by first | rfl | (simp [*] <;> rfl), by repeat (first | (with_reducible first | exact HB.out | apply below_alloc | apply pw_below_drewN | apply below_drew1))⟩
                              · rw [if_neg c26] at H
                                have c26b0 : (x10_3 == (t265.length : Int)) = false := beq_eq_false_iff_ne.mpr c26
                                have c26b1 : (x10_3 != (t265.length : Int)) = true := bne_iff_ne.mpr c26
                                obtain rfl := Option.some.inj H
                                go_wp2
                                repeat (go_quiet (fail); try go_wp2)
                                go_ret
                                exact ⟨by first | rfl | (simp [*] <;> rfl), by repeat (first | (with_reducible first | exact HB.out | apply below_alloc | apply pw_below_drewN | apply below_drew1))⟩
                  · rw [if_neg c14] at H
                    have c14b0 : ((wrap64 ((t264.length : Int) + (t265.length : Int))) == (l0.length : Int)) = false := beq_eq_false_iff_ne.mpr c14
                    have c14b1 : ((wrap64 ((t264.length : Int) + (t265.length : Int))) != (l0.length : Int)) = true := bne_iff_ne.mpr c14
                    obtain rfl := Option.some.inj H
                    go_wp2_with (first | (go_at_call 19; (with_reducible refine (prefix_Declare.calls k2 _ _ l0 t264 t265 t266 _ ?side1 ?side2 ?side3 A12.out).mono ?_); (case side1 => refine Glob.below HG.out ?_; repeat (first | (with_reducible first | exact HB.out | apply below_alloc | apply pw_below_drewN | apply below_drew1))); (case side2 => repeat (first | exact (Kd.C_below HR0.out HB.out) | (with_reducible refine Kd.C_alloc ?_ _) | (with_reducible refine Kd.C_drewN ?_ _) | (with_reducible refine Kd.C_drew ?_))); (case side3 => exact HC0.out); rintro e w64 ⟨v267, v269, rfl, ho0, ho1, hb⟩; have n0_ := Aside0.mk (Kd.R_lower ho0 (below_size (by repeat (first | (with_reducible first | exact HB.out | apply below_alloc | apply pw_below_drewN | apply below_drew1))))); have n1_ := Aside0.mk (Kd.R_lower ho1 (below_size (by repeat (first | (with_reducible first | exact HB.out | apply below_alloc | apply pw_below_drewN | apply below_drew1))))); have n2_ := Aside0.mk (below_step (by repeat (first | (with_reducible first | exact HB.out | apply below_alloc | apply pw_below_drewN | apply below_drew1))) hb); clear HB; have HO268 := n0_; have HO270 := n1_; have HB := n2_; clear n0_ n1_ n2_; (try clear hb); (try clear hb2); (try clear hk); (try clear hi); (try clear ho0); (try clear ho1); obtain ⟨Ao65, co65, eo65⟩ := Kd.R_slice HO268.out; subst eo65; obtain ⟨Ao66, co66, eo66⟩ := Kd.R_slice HO270.out; subst eo66))
                    repeat (go_quiet (first | (go_at_call 19; (with_reducible refine (prefix_Declare.calls k2 _ _ l0 t264 t265 t266 _ ?side1 ?side2 ?side3 A12.out).mono ?_); (case side1 => refine Glob.below HG.out ?_; repeat (first | (with_reducible first | exact HB.out | apply below_alloc | apply pw_below_drewN | apply below_drew1))); (case side2 => repeat (first | exact (Kd.C_below HR0.out HB.out) | (with_reducible refine Kd.C_alloc ?_ _) | (with_reducible refine Kd.C_drewN ?_ _) | (with_reducible refine Kd.C_drew ?_))); (case side3 => exact HC0.out); rintro e w64 ⟨v267, v269, rfl, ho0, ho1, hb⟩; have n0_ := Aside0.mk (Kd.R_lower ho0 (below_size (by repeat (first | (with_reducible first | exact HB.out | apply below_alloc | apply pw_below_drewN | apply below_drew1))))); have n1_ := Aside0.mk (Kd.R_lower ho1 (below_size (by repeat (first | (with_reducible first | exact HB.out | apply below_alloc | apply pw_below_drewN | apply below_drew1))))); have n2_ := Aside0.mk (below_step (by repeat (first | (with_reducible first | exact HB.out | apply below_alloc | apply pw_below_drewN | apply below_drew1))) hb); clear HB; have HO268 := n0_; have HO270 := n1_; have HB := n2_; clear n0_ n1_ n2_; (try clear hb); (try clear hb2); (try clear hk); (try clear hi); (try clear ho0); (try clear ho1); obtain ⟨Ao65, co65, eo65⟩ := Kd.R_slice HO268.out; subst eo65; obtain ⟨Ao66, co66, eo66⟩ := Kd.R_slice HO270.out; subst eo66)); try go_wp2_with (first | (go_at_call 19; (with_reducible refine (prefix_Declare.calls k2 _ _ l0 t264 t265 t266 _ ?side1 ?side2 ?side3 A12.out).mono ?_); (case side1 => refine Glob.below HG.out ?_; repeat (first | (with_reducible first | exact HB.out | apply below_alloc | apply pw_below_drewN | apply below_drew1))); (case side2 => repeat (first | exact (Kd.C_below HR0.out HB.out) | (with_reducible refine Kd.C_alloc ?_ _) | (with_reducible refine Kd.C_drewN ?_ _) | (with_reducible refine Kd.C_drew ?_))); (case side3 => exact HC0.out); rintro e w64 ⟨v267, v269, rfl, ho0, ho1, hb⟩; have n0_ := Aside0.mk (Kd.R_lower ho0 (below_size (by repeat (first | (with_reducible first | exact HB.out | apply below_alloc | apply pw_below_drewN | apply below_drew1))))); have n1_ := Aside0.mk (Kd.R_lower ho1 (below_size (by repeat (first | (with_reducible first | exact HB.out | apply below_alloc | apply pw_below_drewN | apply below_drew1))))); have n2_ := Aside0.mk (below_step (by repeat (first | (with_reducible first | exact HB.out | apply below_alloc | apply pw_below_drewN | apply below_drew1))) hb); clear HB; have HO268 := n0_; have HO270 := n1_; have HB := n2_; clear n0_ n1_ n2_; (try clear hb); (try clear hb2); (try clear hk); (try clear hi); (try clear ho0); (try clear ho1); obtain ⟨Ao65, co65, eo65⟩ := Kd.R_slice HO268.out; subst eo65; obtain ⟨Ao66, co66, eo66⟩ := Kd.R_slice HO270.out; subst eo66)))
                    go_ret
                    exact ⟨by first | rfl | (simp [*] <;> rfl), by repeat (first | (with_reducible first | exact HB.out | apply below_alloc | apply pw_below_drewN | apply below_drew1))⟩
                · rw [if_neg c13] at H
                  have c13b0 : (t266 == 0) = false := beq_eq_false_iff_ne.mpr c13
                  have c13b1 : (t266 != 0) = true := bne_iff_ne.mpr c13
                  by_cases c67 : true = true
                  · clear c67
                    have H1 : (some ((wrap64 ((t264.length : Int) + (t265.length : Int))) == 0)) = some r := by rw [if_pos rfl] at H; exact H
                    clear H
                    have H := H1
                    clear H1
                    obtain rfl := Option.some.inj H
                    go_wp2_with (first | (go_at_call 19; (with_reducible refine (prefix_Declare.calls k2 _ _ l0 t264 t265 t266 _ ?side1 ?side2 ?side3 A12.out).mono ?_); (case side1 => refine Glob.below HG.out ?_; repeat (first | (with_reducible first | exact HB.out | apply below_alloc | apply pw_below_drewN | apply below_drew1))); (case side2 => repeat (first | exact (Kd.C_below HR0.out HB.out) | (with_reducible refine Kd.C_alloc ?_ _) | (with_reducible refine Kd.C_drewN ?_ _) | (with_reducible refine Kd.C_drew ?_))); (case side3 => exact HC0.out); rintro e w68 ⟨v267, v269, rfl, ho0, ho1, hb⟩; have n0_ := Aside0.mk (Kd.R_lower ho0 (below_size (by repeat (first | (with_reducible first | exact HB.out | apply below_alloc | apply pw_below_drewN | apply below_drew1))))); have n1_ := Aside0.mk (Kd.R_lower ho1 (below_size (by repeat (first | (with_reducible first | exact HB.out | apply below_alloc | apply pw_below_drewN | apply below_drew1))))); have n2_ := Aside0.mk (below_step (by repeat (first | (with_reducible first | exact HB.out | apply below_alloc | apply pw_below_drewN | apply below_drew1))) hb); clear HB; have HO268 := n0_; have HO270 := n1_; have HB := n2_; clear n0_ n1_ n2_; (try clear hb); (try clear hb2); (try clear hk); (try clear hi); (try clear ho0); (try clear ho1); obtain ⟨Ao69, co69, eo69⟩ := Kd.R_slice HO268.out; subst eo69; obtain ⟨Ao70, co70, eo70⟩ := Kd.R_slice HO270.out; subst eo70))
                    repeat (go_quiet (first | (go_at_call 19; (with_reducible refine (prefix_Declare.calls k2 _ _ l0 t264 t265 t266 _ ?side1 ?side2 ?side3 A12.out).mono ?_); (case side1 => refine Glob.below HG.out ?_; repeat (first | (with_reducible first | exact HB.out | apply below_alloc | apply pw_below_drewN | apply below_drew1))); (case side2 => repeat (first | exact (Kd.C_below HR0.out HB.out) | (with_reducible refine Kd.C_alloc ?_ _) | (with_reducible refine Kd.C_drewN ?_ _) | (with_reducible refine Kd.C_drew ?_))); (case side3 => exact HC0.out); rintro e w68 ⟨v267, v269, rfl, ho0, ho1, hb⟩; have n0_ := Aside0.mk (Kd.R_lower ho0 (below_size (by repeat (first | (with_reducible first | exact HB.out | apply below_alloc | apply pw_below_drewN | apply below_drew1))))); have n1_ := Aside0.mk (Kd.R_lower ho1 (below_size (by repeat (first | (with_reducible first | exact HB.out | apply below_alloc | apply pw_below_drewN | apply below_drew1))))); have n2_ := Aside0.mk (below_step (by repeat (first | (with_reducible first | exact HB.out | apply below_alloc | apply pw_below_drewN | apply below_drew1))) hb); clear HB; have HO268 := n0_; have HO270 := n1_; have HB := n2_; clear n0_ n1_ n2_; (try clear hb); (try clear hb2); (try clear hk); (try clear hi); (try clear ho0); (try clear ho1); obtain ⟨Ao69, co69, eo69⟩ := Kd.R_slice HO268.out; subst eo69; obtain ⟨Ao70, co70, eo70⟩ := Kd.R_slice HO270.out; subst eo70)); try go_wp2_with (first | (go_at_call 19; (with_reducible refine (prefix_Declare.calls k2 _ _ l0 t264 t265 t266 _ ?side1 ?side2 ?side3 A12.out).mono ?_); (case side1 => refine Glob.below HG.out ?_; repeat (first | (with_reducible first | exact HB.out | apply below_alloc | apply pw_below_drewN | apply below_drew1))); (case side2 => repeat (first | exact (Kd.C_below HR0.out HB.out) | (with_reducible refine Kd.C_alloc ?_ _) | (with_reducible refine Kd.C_drewN ?_ _) | (with_reducible refine Kd.C_drew ?_))); (case side3 => exact HC0.out); rintro e w68 ⟨v267, v269, rfl, ho0, ho1, hb⟩; have n0_ := Aside0.mk (Kd.R_lower ho0 (below_size (by repeat (first | (with_reducible first | exact HB.out | apply below_alloc | apply pw_below_drewN | apply below_drew1))))); have n1_ := Aside0.mk (Kd.R_lower ho1 (below_size (by repeat (first | (with_reducible first | exact HB.out | apply below_alloc | apply pw_below_drewN | apply below_drew1))))); have n2_ := Aside0.mk (below_step (by repeat (first | (with_reducible first | exact HB.out | apply below_alloc | apply pw_below_drewN | apply below_drew1))) hb); clear HB; have HO268 := n0_; have HO270 := n1_; have HB := n2_; clear n0_ n1_ n2_; (try clear hb); (try clear hb2); (try clear hk); (try clear hi); (try clear ho0); (try clear ho1); obtain ⟨Ao69, co69, eo69⟩ := Kd.R_slice HO268.out; subst eo69; obtain ⟨Ao70, co70, eo70⟩ := Kd.R_slice HO270.out; subst eo70)))
                    go_ret
                    exact ⟨by first | rfl | (simp [*] <;> rfl), by repeat (first | (with_reducible first | exact HB.out | apply below_alloc | apply pw_below_drewN | apply below_drew1))⟩
                  · exact absurd rfl c67
  · replace c4 := Bool.eq_false_iff.mpr c4
    subst c4
    have H1 : (some false) = some r := by rw [if_neg (show ¬ (false = true) by decide)] at H; exact H
    clear H
    have H := H1
    clear H1
    obtain rfl := Option.some.inj H
    go_enter Tryd.func6, Tryd.ntmps6
    go_wp2_with (first | (go_at_call 14; (with_reducible refine (broadsheetlaw08_awake.calls k  false _ ?side1 A3.out).mono ?_); (case side1 => refine Glob.below HG.out ?_; repeat (first | (with_reducible first | exact HB.out | apply below_alloc | apply pw_below_drewN | apply below_drew1))); rintro e w72 ⟨rfl, hb⟩; have n0_ := Aside0.mk (below_step (by repeat (first | (with_reducible first | exact HB.out | apply below_alloc | apply pw_below_drewN | apply below_drew1))) hb); clear HB; have HB := n0_; clear n0_; (try clear hb); (try clear hb2); (try clear hk); (try clear hi)))
    repeat (go_quiet (first | (go_at_call 14; (with_reducible refine (broadsheetlaw08_awake.calls k  false _ ?side1 A3.out).mono ?_); (case side1 => refine Glob.below HG.out ?_; repeat (first | (with_reducible first | exact HB.out | apply below_alloc | apply pw_below_drewN | apply below_drew1))); rintro e w72 ⟨rfl, hb⟩; have n0_ := Aside0.mk (below_step (by repeat (first | (with_reducible first | exact HB.out | apply below_alloc | apply pw_below_drewN | apply below_drew1))) hb); clear HB; have HB := n0_; clear n0_; (try clear hb); (try clear hb2); (try clear hk); (try clear hi))); try go_wp2_with (first | (go_at_call 14; (with_reducible refine (broadsheetlaw08_awake.calls k  false _ ?side1 A3.out).mono ?_); (case side1 => refine Glob.below HG.out ?_; repeat (first | (with_reducible first | exact HB.out | apply below_alloc | apply pw_below_drewN | apply below_drew1))); rintro e w72 ⟨rfl, hb⟩; have n0_ := Aside0.mk (below_step (by repeat (first | (with_reducible first | exact HB.out | apply below_alloc | apply pw_below_drewN | apply below_drew1))) hb); clear HB; have HB := n0_; clear n0_; (try clear hb); (try clear hb2); (try clear hk); (try clear hi))))
    go_ret
    exact ⟨by first | rfl | (simp [*] <;> rfl), by repeat (first | (with_reducible first | exact HB.out | apply below_alloc | apply pw_below_drewN | apply below_drew1))⟩

end Go.Proofs.YtidjihhklmfaiaaDoor.Px
