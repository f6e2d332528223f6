/- What the library's package-level variables hold, carried over the walks; and the library's functions that are called, as plain functions. -/
import Derived.Test.YtldancekpigkaaaDoorShelf
import Derived.Test.YtldancekpigkaaaDoorXGlyph
import Derived.Test.YtldancekpigkaaaDoorWWords
import Derived.Laws.RangeAny
import Derived.Lib.OthersKept
namespace Go.Proofs.YtldancekpigkaaaDoor.X
open Go.RowKit Go.Shelf Go.Proofs.YtldancekpigkaaaDoorW.PrintWords

abbrev L (s : ByteArray) : List UInt8 := s.data.toList
abbrev M (l : List UInt8) : ByteArray := ⟨l.toArray⟩

structure Glob (w : World) : Prop where
  tabs : Lib.Utf8Tabs 0 1 w
theorem Glob.below {w w' : World} (h : Glob w) (hb : Below w.heap.size w w') : Glob w' := ⟨Utf8Tabs_below h.tabs hb⟩

theorem below_drewN (w : World) (n : Nat) : Below w.heap.size w (w.drewN n) := by
  induction n with
  | zero => exact Below.refl _ _
  | succ n ih => rw [← World.drew_drewN]; exact ih.drew

theorem xx_ne_nil (l : List UInt8) : (l != []) = !l.isEmpty := by cases l <;> rfl
theorem xx_eq_nil (l : List UInt8) : (l == []) = l.isEmpty := by cases l <;> rfl

/-! strings.IndexByte. -/
def strings_IndexByte.f (a0 : ByteArray) (a1 : Int) : Option Int := some (Lib.indexByte a0.data.toList a1.toNat.toUInt8)
theorem strings_IndexByte.calls (a0 : ByteArray) (a1 : Int) (r : Int) (w : World) (h : strings_IndexByte.f a0 a1 = some r) :
    Calls Tryd.prog 46 #[.string a0, .int .u8 a1] w fun e w' => e = .returned (.int .i64 r) ∧ Below w.heap.size w w' := by
  cases h
  refine (Tryd.strings_IndexByte a0 a1 w).mono ?_
  rintro e w' ⟨rfl, rfl⟩
  exact ⟨rfl, Below.refl _ _⟩

/-! strings.Trim, the cutset of ASCII bytes. -/
def strings_Trim.f (a0 a1 : ByteArray) : Option ByteArray := if a0.size ≤ 9223372036854775807 ∧ (a1.data.toList.all fun c => decide (c.toNat < 128)) = true ∧ a1.size ≤ 1000 then some (M (Lib.trimS a0.data.toList a1.data.toList)) else none
theorem strings_Trim.calls (a0 a1 : ByteArray) (r : ByteArray) (w : World) (h : strings_Trim.f a0 a1 = some r) :
    Calls Tryd.prog 63 #[.string a0, .string a1] w fun e w' => e = .returned (.string r) ∧ Below w.heap.size w w' := by
  unfold strings_Trim.f at h
  split at h
  · rename_i hs
    cases h
    exact Any.strings_Trim_laid Tryd.lays160 (by kernel_rfl) a0 a1 w hs.1 (by have := hs.2.2; omega) (ascii_of_all hs.2.1)
  · cases h

/-! strings.LastIndex of one byte. -/
def strings_LastIndex.f (a0 a1 : ByteArray) : Option Int := if h : a1.size = 1 ∧ a0.size < 4611686018427387904 then some (Lib.lastIndexByte a0 ((a1[0]'(by omega)).toNat : Int)) else none
theorem strings_LastIndex.calls (a0 a1 : ByteArray) (r : Int) (w : World) (h : strings_LastIndex.f a0 a1 = some r) :
    Calls Tryd.prog 57 #[.string a0, .string a1] w fun e w' => e = .returned (.int .i64 r) ∧ Below w.heap.size w w' := by
  unfold strings_LastIndex.f at h
  split at h
  · rename_i hs
    cases h
    refine (Tryd.strings_LastIndex_one a0 a1 hs.1 hs.2 w).mono ?_
    rintro e w' ⟨rfl, rfl⟩
    exact ⟨rfl, Below.refl _ _⟩
  · cases h

/-! strings.HasPrefix, CutPrefix, TrimPrefix. -/
def strings_HasPrefix.f (a0 a1 : ByteArray) : Option Bool := some (Lib.hasPrefix a0.data.toList a1.data.toList)
theorem strings_HasPrefix.calls (a0 a1 : ByteArray) (r : Bool) (w : World) (h : strings_HasPrefix.f a0 a1 = some r) :
    Calls Tryd.prog 40 #[.string a0, .string a1] w fun e w' => e = .returned (.bool r) ∧ Below w.heap.size w w' := by
  cases h
  refine (Tryd.strings_HasPrefix a0 a1 w).mono ?_
  rintro e w' ⟨rfl, rfl⟩
  exact ⟨rfl, Below.refl _ _⟩
def strings_CutPrefix.f (a0 a1 : ByteArray) : Option (ByteArray × Bool) := some (M (Lib.trimPrefix a0.data.toList a1.data.toList), Lib.hasPrefix a0.data.toList a1.data.toList)
theorem strings_CutPrefix.calls (a0 a1 : ByteArray) (r1 : ByteArray) (r2 : Bool) (w : World) (h : strings_CutPrefix.f a0 a1 = some (r1, r2)) :
    Calls Tryd.prog 41 #[.string a0, .string a1] w fun e w' => e = .returned (.tuple #[.string r1, .bool r2]) ∧ Below w.heap.size w w' := by
  cases h
  refine (Tryd.strings_CutPrefix a0 a1 w).mono ?_
  rintro e w' ⟨rfl, rfl⟩
  exact ⟨rfl, Below.refl _ _⟩
def strings_TrimPrefix.f (a0 a1 : ByteArray) : Option ByteArray := some (M (Lib.trimPrefix a0.data.toList a1.data.toList))
theorem strings_TrimPrefix.calls (a0 a1 : ByteArray) (r : ByteArray) (w : World) (h : strings_TrimPrefix.f a0 a1 = some r) :
    Calls Tryd.prog 34 #[.string a0, .string a1] w fun e w' => e = .returned (.string r) ∧ Below w.heap.size w w' := by
  cases h
  refine (Tryd.strings_TrimPrefix a0 a1 w).mono ?_
  rintro e w' ⟨rfl, rfl⟩
  exact ⟨rfl, Below.refl _ _⟩
end Go.Proofs.YtldancekpigkaaaDoor.X
