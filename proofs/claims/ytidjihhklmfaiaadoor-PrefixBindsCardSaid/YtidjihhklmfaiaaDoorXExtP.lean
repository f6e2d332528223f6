/- What the printed texts of the prefix laws lean on: prefix.space, as a plain function, and the other hand-made contracts. -/
import Derived.Test.YtidjihhklmfaiaaDoorXExt
import Derived.Test.YtidjihhklmfaiaaDoorXSpace
namespace Go.Proofs.YtidjihhklmfaiaaDoor.X
open Go.RowKit Go.Shelf Go.Proofs.YtidjihhklmfaiaaDoorW.PrintWords Go.Proofs.YtidjihhklmfaiaaDoor.Px
theorem prefix_space.calls (A0 : Option Addr) (c0 : Nat) (l0 : List S30) (a1 : ByteArray) (r1 : ByteArray) (r2 : Bool) (w : World) (hr0 : Kd.C k30 w A0 l0.length l0) (_ : l0.length ≤ c0) (h : prefix_space.f l0 a1 = some (r1, r2)) :
    Calls Tryd.prog 40 #[.slice A0 l0.length c0, .string a1] w fun e w' => e = .returned (.tuple #[.string r1, .bool r2]) ∧ Below w.heap.size w w' := by
  unfold prefix_space.f at h
  split at h
  · rename_i hl
    have hr := Option.some.inj h
    refine (callsIn_wide.1 (space_in Fence.wide 3 trivial trivial trivial rfl (Nat.le_refl _) A0 c0 l0 hl a1 w hr0)).mono ?_
    rintro e w' ⟨rfl, hb⟩
    rw [hr]
    exact ⟨rfl, hb⟩
  · cases h
end Go.Proofs.YtidjihhklmfaiaaDoor.X
