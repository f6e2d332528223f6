/- What the printed texts of the tags lean on beyond the kit: etag.List, etag.Has, etag.inner in the printer's shape. -/
import Derived.Test.YtodhbldnmepmaaaDoorXList
namespace Go.Proofs.YtodhbldnmepmaaaDoor.X
open Go.RowKit Go.Shelf Go.Proofs.YtodhbldnmepmaaaDoorW.PrintWords Go.Proofs.YtodhbldnmepmaaaDoorW.PrintLast Go.Proofs.YtodhbldnmepmaaaDoorW.PrintMore Go.Proofs.YtodhbldnmepmaaaDoor.Pe

theorem xx_ne_nil (l : List UInt8) : (l != []) = !l.isEmpty := by cases l <;> rfl
theorem xx_eq_nil (l : List UInt8) : (l == []) = l.isEmpty := by cases l <;> rfl

set_option linter.unusedVariables false
theorem etag_List.calls (a0 : ByteArray) (r1 : List S24) (r2 : Bool) (r3 : Int) (w : World) (hG : Glob w) (h : etag_List.f a0 = some (r1, r2, r3)) :
    Calls Tryd.prog 20 #[.string a0] w fun e w' => ∃ v : Value, e = .returned (.tuple #[v, .bool r2, .int .i64 r3]) ∧ Kd.R k24 24 w' w.heap.size (fun _ => True) v r1 ∧ Below w.heap.size w w' := by
  unfold etag_List.f at h
  split at h
  · rename_i hs
    have e := Option.some.inj h
    have := list_calls a0 w hG hs
    rw [e] at this
    exact this
  · cases h

def etag_inner.f (a0 : ByteArray) : Option Bool := if a0.size ≤ 140737488355328 then some (innerB (L a0)) else none
theorem etag_inner.calls (a0 : ByteArray) (r : Bool) (w : World) (h : etag_inner.f a0 = some r) :
    Calls Tryd.prog 44 #[.string a0] w fun e w' => e = .returned (.bool r) ∧ Below w.heap.size w w' := by
  unfold etag_inner.f at h
  split at h
  · rename_i hs
    cases h
    exact inner_calls a0 w hs
  · cases h

def etag_Has.f (l : List S24) (a1 : Bool) (a2_0 : Bool) (a2_1 : ByteArray) (a3 a4 : Bool) : Option Bool := if l.length ≤ 4611686018427387904 then some (hasV l a1 ⟨a2_0, a2_1⟩ a3 a4) else none
theorem etag_Has.calls (A0 : Option Addr) (c0 : Nat) (l0 : List S24) (a1 : Bool) (a2_0 : Bool) (a2_1 : ByteArray) (a3 a4 : Bool) (r : Bool) (w : World) (hr0 : Kd.C k24 w A0 l0.length l0) (hc0 : l0.length ≤ c0) (h : etag_Has.f l0 a1 a2_0 a2_1 a3 a4 = some r) :
    Calls Tryd.prog 15 #[.slice A0 l0.length c0, .bool a1, .agg #[.bool a2_0, .string a2_1], .bool a3, .bool a4] w fun e w' => e = .returned (.bool r) ∧ Below w.heap.size w w' := by
  unfold etag_Has.f at h
  split at h
  · rename_i hs
    cases h
    exact has_calls A0 c0 l0 a1 ⟨a2_0, a2_1⟩ a3 a4 w hr0 hs
  · cases h
end Go.Proofs.YtodhbldnmepmaaaDoor.X
