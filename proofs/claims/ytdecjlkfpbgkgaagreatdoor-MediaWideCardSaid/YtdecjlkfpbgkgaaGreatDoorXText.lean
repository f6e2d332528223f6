/- media.Text's own methods, by hand: Skip, Take: what stands in the text's cell behind the call. -/
import Derived.Test.YtdecjlkfpbgkgaaGreatDoorShelf
import Derived.Test.YtdecjlkfpbgkgaaGreatDoorWWords
import Derived.Shelf.Strings.SlTrimAscii
import Derived.WalkKit
import Derived.Tactics
import Derived.KernelRfl
import Derived.Lib.Hide
import Derived.Deep.Heap
import Derived.RangeFuncBox
namespace Go.Proofs.YtdecjlkfpbgkgaaGreatDoor.X
open Go.RowKit Go.Shelf Go.Proofs.YtdecjlkfpbgkgaaGreatDoorW.PrintWords

abbrev L (s : ByteArray) : List UInt8 := s.data.toList
abbrev M (l : List UInt8) : ByteArray := ⟨l.toArray⟩

/-- One box written in both worlds. -/
theorem below_set {w w1 : World} {b : Nat} {t : TypeId} {u : Value} (h : Below w.heap.size w w1) (hb : Boxed w b t u) (v : Value) : Below w.heap.size (w.setCell ⟨b, 0, none⟩ v) (w1.setCell ⟨b, 0, none⟩ v) := by
  have hb1 : Boxed w1 b t u := (h.block b hb.lt).trans hb
  refine ⟨h.os, h.tape, h.output, ?_, fun k hk => ?_⟩
  · rw [Deep.nblk_setCell, Deep.nblk_setCell]; exact h.size
  · by_cases e : k = b
    · subst e
      exact (hb1.set v).trans (hb.set v).symm
    · rw [Below.heap_setCell _ _ _ _ (by exact e), Below.heap_setCell _ _ _ _ (by exact e), h.block k hk]

theorem trimLeft_calls (s : ByteArray) (w : World) :
    Calls Tryz.prog 35 #[.string s, .string ⟨#[32, 9]⟩] w fun e w' => e = .returned (.string (M (Lib.trimLeftS (L s) [32, 9]))) ∧ Below w.heap.size w w' :=
  Any.strings_TrimLeft_laid Tryz.lays161 (by kernel_rfl) s ⟨#[32, 9]⟩ w (by decide) (ascii_of_all (by decide))

set_option maxHeartbeats 1000000 in
set_option maxRecDepth 100000 in
theorem skip_calls (b : Nat) (s : ByteArray) (w : World) (hb : Boxed w b 43 (.string s)) :
    Calls Tryz.prog 21 #[.pointer (some ⟨b, 0, none⟩)] w fun e w' => e = .returned (.tuple #[]) ∧ Below w.heap.size (w.setCell ⟨b, 0, none⟩ (.string (M (Lib.trimLeftS (L s) [32, 9])))) w' := by
  have hc := hb.cell
  have hf := hb.frozen
  have HB := Lib.hid hb
  clear hb
  go_enter Tryz.func21, Tryz.ntmps21
  go_wp2_with fail
  refine (trimLeft_calls s w).mono ?_
  rintro e w1 ⟨rfl, h1⟩
  have hb1 : Boxed w1 b 43 (.string s) := (h1.block b HB.out.lt).trans HB.out
  have hc1 := hb1.cell
  have hf1 := hb1.frozen
  have H1 := Lib.hid (below_set h1 HB.out (.string (M (Lib.trimLeftS (L s) [32, 9]))))
  clear h1 hb1 hc hf
  go_wp2
  exact bodyPost_end (results_none rfl _ _ _) rfl ⟨rfl, H1.out⟩

set_option maxHeartbeats 1000000 in
set_option maxRecDepth 100000 in
theorem take_calls (b : Nat) (s p : ByteArray) (w : World) (hb : Boxed w b 43 (.string s)) :
    Calls Tryz.prog 23 #[.pointer (some ⟨b, 0, none⟩), .string p] w fun e w' => e = .returned (.bool (Lib.hasPrefix (L s) (L p))) ∧ Below w.heap.size (w.setCell ⟨b, 0, none⟩ (.string (M (Lib.trimPrefix (L s) (L p))))) w' := by
  have hc := hb.cell
  have hf := hb.frozen
  have HB := Lib.hid hb
  clear hb
  go_enter Tryz.func23, Tryz.ntmps23
  go_wp2_with fail
  refine (Tryz.strings_CutPrefix s p w).mono ?_
  rintro e w1 ⟨rfl, rfl⟩
  go_wp2
  go_ret
  exact ⟨rfl, Below.refl _ _⟩
end Go.Proofs.YtdecjlkfpbgkgaaGreatDoor.X
