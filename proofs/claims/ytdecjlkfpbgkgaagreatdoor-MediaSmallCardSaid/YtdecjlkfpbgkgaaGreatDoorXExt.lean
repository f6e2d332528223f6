/- What the printed texts of media types lean on beyond the kit: the hand-made contracts in the printer's shape. -/
import Derived.Test.YtdecjlkfpbgkgaaGreatDoorXMed
import Derived.Test.YtdecjlkfpbgkgaaGreatDoorXRep
namespace Go.Proofs.YtdecjlkfpbgkgaaGreatDoor.X
open Go.RowKit Go.Shelf Go.Proofs.YtdecjlkfpbgkgaaGreatDoorW.PrintWords Go.Proofs.YtdecjlkfpbgkgaaGreatDoor.F Go.Proofs.YtdecjlkfpbgkgaaGreatDoor.Pm
set_option linter.unusedVariables false
theorem xx_ne_nil (l : List UInt8) : (l != []) = !l.isEmpty := by cases l <;> rfl
theorem xx_eq_nil (l : List UInt8) : (l == []) = l.isEmpty := by cases l <;> rfl
def media_Small.f (a0 : ByteArray) : Option ByteArray := if a0.size ≤ 140737488355328 then some (M (small (L a0))) else none
theorem media_Small.calls (a0 : ByteArray) (r : ByteArray) (w : World) (h : media_Small.f a0 = some r) :
    Calls Tryz.prog 25 #[.string a0] w fun e w' => e = .returned (.string r) ∧ Below w.heap.size w w' := by
  unfold media_Small.f at h
  split at h
  · rename_i hs
    cases h
    exact small_calls a0 w hs
  · cases h
def media_Parse.f (a0 : ByteArray) : Option (ByteArray × ByteArray × List S38 × Int) := if a0.size ≤ 100000000 then some (parseV (L a0)) else none
theorem media_Parse.calls (a0 : ByteArray) (r1 : ByteArray) (r2 : ByteArray) (r3 : List S38) (r4 : Int) (w : World) (h : media_Parse.f a0 = some (r1, r2, r3, r4)) :
    Calls Tryz.prog 10 #[.string a0] w fun e w' => ∃ v2_ : Value, e = .returned (.tuple #[.agg #[.string r1, .string r2, v2_], .int .i64 r4]) ∧ Kd.R k38 38 w' w.heap.size (fun _ => True) v2_ r3 ∧ Below w.heap.size w w' := by
  unfold media_Parse.f at h
  split at h
  · rename_i hs
    have e := Option.some.inj h
    have := mparse_calls a0 w hs
    rw [e] at this
    exact this
  · cases h
def media_Param.f (a0_0 : ByteArray) (a0_1 : ByteArray) (l0_2 : List S38) (a1 : ByteArray) : Option (ByteArray × Bool) := some (paramW l0_2 a1)
theorem media_Param.calls (a0_0 : ByteArray) (a0_1 : ByteArray) (A0_2 : Option Addr) (c0_2 : Nat) (l0_2 : List S38) (a1 : ByteArray) (r1 : ByteArray) (r2 : Bool) (w : World) (hr0_2 : Kd.C k38 w A0_2 l0_2.length l0_2) (hc0_2 : l0_2.length ≤ c0_2) (h : media_Param.f a0_0 a0_1 l0_2 a1 = some (r1, r2)) :
    Calls Tryz.prog 14 #[.agg #[.string a0_0, .string a0_1, .slice A0_2 l0_2.length c0_2], .string a1] w fun e w' => e = .returned (.tuple #[.string r1, .bool r2]) ∧ Below w.heap.size w w' := by
  have e := Option.some.inj h
  have := param_calls a0_0 a0_1 A0_2 c0_2 l0_2 a1 w hr0_2 hc0_2
  rw [e] at this
  exact this
def smallVals (l : List S38) : Bool := l.all fun x => decide (x.f1.size ≤ 140737488355328)
theorem smallVals_of {l : List S38} (h : smallVals l = true) : ∀ x ∈ l, x.f1.size ≤ 140737488355328 := fun x hx => of_decide_eq_true (List.all_eq_true.1 h x hx)
def media_Fits.f (a0_0 : ByteArray) (a0_1 : ByteArray) (l0_2 : List S38) (a1_0 : ByteArray) (a1_1 : ByteArray) (l1_2 : List S38) : Option Bool := if smallVals l0_2 = true ∧ smallVals l1_2 = true then some (fitsV a0_0 a0_1 l0_2 a1_0 a1_1 l1_2) else none
theorem media_Fits.calls (a0_0 : ByteArray) (a0_1 : ByteArray) (A0_2 : Option Addr) (c0_2 : Nat) (l0_2 : List S38) (a1_0 : ByteArray) (a1_1 : ByteArray) (A1_2 : Option Addr) (c1_2 : Nat) (l1_2 : List S38) (r : Bool) (w : World) (hr0_2 : Kd.C k38 w A0_2 l0_2.length l0_2) (hc0_2 : l0_2.length ≤ c0_2) (hr1_2 : Kd.C k38 w A1_2 l1_2.length l1_2) (hc1_2 : l1_2.length ≤ c1_2) (h : media_Fits.f a0_0 a0_1 l0_2 a1_0 a1_1 l1_2 = some r) :
    Calls Tryz.prog 16 #[.agg #[.string a0_0, .string a0_1, .slice A0_2 l0_2.length c0_2], .agg #[.string a1_0, .string a1_1, .slice A1_2 l1_2.length c1_2]] w fun e w' => e = .returned (.bool r) ∧ Below w.heap.size w w' := by
  unfold media_Fits.f at h
  split at h
  · rename_i hs
    exact fits_calls a0_0 a0_1 A0_2 c0_2 l0_2 a1_0 a1_1 A1_2 c1_2 l1_2 w hr0_2 hc0_2 hr1_2 hc1_2 (smallVals_of hs.1) (smallVals_of hs.2) r (Option.some.inj h)
  · cases h
/-- Fits of a range without parameters. -/
theorem media_Fits.calls0 (a0_0 : ByteArray) (a0_1 : ByteArray) (a1_0 : ByteArray) (a1_1 : ByteArray) (A1_2 : Option Addr) (c1_2 : Nat) (l1_2 : List S38) (r : Bool) (w : World) (hr1_2 : Kd.C k38 w A1_2 l1_2.length l1_2) (hc1_2 : l1_2.length ≤ c1_2) (h : media_Fits.f a0_0 a0_1 ([] : List S38) a1_0 a1_1 l1_2 = some r) :
    Calls Tryz.prog 16 #[.agg #[.string a0_0, .string a0_1, .slice none 0 0], .agg #[.string a1_0, .string a1_1, .slice A1_2 l1_2.length c1_2]] w fun e w' => e = .returned (.bool r) ∧ Below w.heap.size w w' :=
  media_Fits.calls a0_0 a0_1 none 0 [] a1_0 a1_1 A1_2 c1_2 l1_2 r w (Kd.C_nil _ _) (Nat.le_refl _) hr1_2 hc1_2 h
def media_Print.f (a0_0 : ByteArray) (a0_1 : ByteArray) (l0_2 : List S38) : Option ByteArray := if tot l0_2 + a0_0.size + a0_1.size ≤ 1000000 ∧ l0_2.length ≤ 1000000 then some (M (headT a0_0 a0_1 ++ partsG l0_2)) else none
theorem media_Print.calls (a0_0 : ByteArray) (a0_1 : ByteArray) (A0_2 : Option Addr) (c0_2 : Nat) (l0_2 : List S38) (r : ByteArray) (w : World) (hr0_2 : Kd.C k38 w A0_2 l0_2.length l0_2) (hc0_2 : l0_2.length ≤ c0_2) (h : media_Print.f a0_0 a0_1 l0_2 = some r) :
    Calls Tryz.prog 18 #[.agg #[.string a0_0, .string a0_1, .slice A0_2 l0_2.length c0_2]] w fun e w' => e = .returned (.string r) ∧ Below w.heap.size w w' := by
  unfold media_Print.f at h
  split at h
  · rename_i hs
    cases h
    exact gprint_calls a0_0 a0_1 A0_2 c0_2 l0_2 w hr0_2 hc0_2 hs.1 hs.2
  · cases h
def broadsheetlaw13_awake.f : Option Bool := some true
theorem broadsheetlaw13_awake.calls (r : Bool) (w : World) (h : broadsheetlaw13_awake.f = some r) :
    Calls Tryz.prog 9 #[] w fun e w' => e = .returned (.bool r) ∧ Below w.heap.size w w' := by
  cases h
  exact awake_calls w
end Go.Proofs.YtdecjlkfpbgkgaaGreatDoor.X
