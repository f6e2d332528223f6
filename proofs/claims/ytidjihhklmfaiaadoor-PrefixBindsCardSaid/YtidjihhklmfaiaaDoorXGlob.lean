/- What the library's package-level variables hold, carried over the walks; and the library's functions that are called, as plain functions. -/
import Derived.Test.YtidjihhklmfaiaaDoorShelf
import Derived.Test.YtidjihhklmfaiaaDoorXGlyph
import Derived.Laws.RangeAny
import Derived.Lib.OthersKept
namespace Go.Proofs.YtidjihhklmfaiaaDoor.X
open Go.RowKit Go.Shelf

structure Glob (w : World) : Prop where
  tabs : Lib.Utf8Tabs 0 1 w
  max : ∃ m, w.cell? ⟨2, 0, none⟩ = some (.int .i64 m)
theorem Glob.below {w w' : World} (h : Glob w) (hb : Below w.heap.size w w') : Glob w' :=
  ⟨Utf8Tabs_below h.tabs hb, let ⟨m, hm⟩ := h.max; ⟨m, (hb.cell (World.block_lt_of_cell? w _ hm)).trans hm⟩⟩

theorem below_drewN (w : World) (n : Nat) : Below w.heap.size w (w.drewN n) := by
  induction n with
  | zero => exact Below.refl _ _
  | succ n ih => rw [← World.drew_drewN]; exact ih.drew

theorem xx_ne_nil (l : List UInt8) : (l != []) = !l.isEmpty := by cases l <;> rfl
theorem xx_eq_nil (l : List UInt8) : (l == []) = l.isEmpty := by cases l <;> rfl

/-! strings.Cut at a text of any length below the model's bound. -/
def strings_Cut.f (a0 a1 : ByteArray) : Option (ByteArray × ByteArray × Bool) :=
  if a0.size < 4294967281 then some (⟨(Lib.cut a0.data.toList a1.data.toList).1.toArray⟩, ⟨(Lib.cut a0.data.toList a1.data.toList).2.1.toArray⟩, (Lib.cut a0.data.toList a1.data.toList).2.2) else none
theorem strings_Cut.calls (a0 a1 : ByteArray) (r1 r2 : ByteArray) (r3 : Bool) (w : World) (hG : Glob w) (h : strings_Cut.f a0 a1 = some (r1, r2, r3)) :
    Calls Tryd.prog 39 #[.string a0, .string a1] w fun e w' => e = .returned (.tuple #[.string r1, .string r2, .bool r3]) ∧ Below w.heap.size w w' := by
  unfold strings_Cut.f at h
  split at h
  · rename_i hs
    cases h
    obtain ⟨m, hm⟩ := hG.max
    refine (Tryd.strings_Cut a0 a1 m w hs hm).mono ?_
    rintro e w' ⟨rfl, n, rfl⟩
    exact ⟨rfl, below_drewN w n⟩
  · cases h

/-! strings.Contains of one byte. -/
def strings_Contains.f (a0 a1 : ByteArray) : Option Bool := match a1.data.toList with | [c] => some (decide (0 ≤ Lib.indexByte a0.data.toList c)) | _ => none
theorem strings_Contains.calls (a0 a1 : ByteArray) (r : Bool) (w : World) (hG : Glob w) (h : strings_Contains.f a0 a1 = some r) :
    Calls Tryd.prog 48 #[.string a0, .string a1] w fun e w' => e = .returned (.bool r) ∧ Below w.heap.size w w' := by
  obtain ⟨⟨l⟩⟩ := a1
  match l, h with
  | [c], h =>
    cases h
    refine (Tryd.strings_Contains_one a0 c w).mono ?_
    rintro e w' ⟨rfl, rfl⟩
    exact ⟨rfl, Below.refl _ _⟩

/-! strings.ReplaceAll of a text of one byte or more. -/
def strings_ReplaceAll.f (a0 a1 a2 : ByteArray) : Option ByteArray :=
  if a0.size < 4294967281 ∧ 1 ≤ a1.size ∧ a0.size + Lib.countB a0 a1 * a2.size ≤ 140737488355328 then some ⟨(Lib.replaceAll a0.data.toList a1.data.toList a2.data.toList).toArray⟩ else none
theorem strings_ReplaceAll.calls (a0 a1 a2 : ByteArray) (r : ByteArray) (w : World) (hG : Glob w) (h : strings_ReplaceAll.f a0 a1 a2 = some r) :
    Calls Tryd.prog 47 #[.string a0, .string a1, .string a2] w fun e w' => e = .returned (.string r) ∧ Below w.heap.size w w' := by
  unfold strings_ReplaceAll.f at h
  split at h
  · rename_i hs
    cases h
    obtain ⟨m, hm⟩ := hG.max
    exact Tryd.strings_ReplaceAll a0 a1 a2 m w hs.1 hm hs.2.1 hs.2.2
  · cases h

/-! utf8.DecodeRuneInString. -/
def utf8_DecodeRuneInString.f (a0 : ByteArray) : Option (Int × Int) := some ((Lib.decodeGo a0).1, (Lib.decodeGo a0).2)
theorem utf8_DecodeRuneInString.calls (a0 : ByteArray) (r1 r2 : Int) (w : World) (hG : Glob w) (h : utf8_DecodeRuneInString.f a0 = some (r1, r2)) :
    Calls Tryd.prog 45 #[.string a0] w fun e w' => e = .returned (.tuple #[.int .i32 r1, .int .i64 r2]) ∧ Below w.heap.size w w' := by
  cases h
  exact Tryd.utf8_DecodeRuneInString a0 w hG.tabs

def glyph_Char.f (a0 : Int) : Option Bool := some (charB a0)
theorem glyph_Char.calls (a0 : Int) (r : Bool) (w : World) (h : glyph_Char.f a0 = some r) : Calls Tryd.prog 23 #[.int .i64 a0] w fun e w' => e = .returned (.bool r) ∧ Below w.heap.size w w' := by
  cases h; exact char_calls a0 w
def glyph_Start.f (a0 : Int) : Option Bool := some (startB a0)
theorem glyph_Start.calls (a0 : Int) (r : Bool) (w : World) (h : glyph_Start.f a0 = some r) : Calls Tryd.prog 25 #[.int .i64 a0] w fun e w' => e = .returned (.bool r) ∧ Below w.heap.size w w' := by
  cases h; exact start_calls a0 w
def glyph_Part.f (a0 : Int) : Option Bool := some (partB a0)
theorem glyph_Part.calls (a0 : Int) (r : Bool) (w : World) (h : glyph_Part.f a0 = some r) : Calls Tryd.prog 27 #[.int .i64 a0] w fun e w' => e = .returned (.bool r) ∧ Below w.heap.size w w' := by
  cases h; exact part_calls a0 w
end Go.Proofs.YtidjihhklmfaiaaDoor.X
