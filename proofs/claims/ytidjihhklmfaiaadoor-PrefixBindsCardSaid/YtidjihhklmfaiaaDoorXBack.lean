/- slices.Backward at []api.Pair, by hand: its iterator's contract, after the guide's worked slices.All. -/
import Derived.RangeFuncBox
import Derived.RangeFuncNested
import Derived.RangeFuncLeaves
import Derived.Shelf.Abstract
import Derived.Shelf.RegionOpen
import Derived.WalkKit
import Derived.OwnWalkIn
import Derived.TacticsInMore
import Derived.RegionIn
import Derived.BigRegionIn
import Derived.LoopNIn
import Derived.LoopIn
import Derived.Outline
import Derived.Test.YtidjihhklmfaiaaDoorPx0
namespace Go.Proofs.YtidjihhklmfaiaaDoor.X
open Go.RowKit Go.Shelf Go.Proofs.YtidjihhklmfaiaaDoorW.PrintWords Go.Proofs.YtidjihhklmfaiaaDoor.Px

attribute [local go_sem] Oper.semAt_some

def upto {α : Type} (f : Nat → α) (k : Nat) : List α := (List.range k).map f
theorem upto_succ {α : Type} (f : Nat → α) (k : Nat) : upto f (k + 1) = upto f k ++ [f k] := by simp [upto, List.range_succ]
theorem upto_length {α : Type} (f : Nat → α) (k : Nat) : (upto f k).length = k := by simp [upto]

/-- What the iterator hands over in round j: the place from behind, and the pair there. -/
def backAt (l : List S30) (j : Nat) : Int × S30 := ((l.length : Int) - 1 - j, rd_T30 l ((l.length : Int) - 1 - j))
abbrev pairEnc (x : Int × S30) : Array Value := #[.int .i64 x.1, .agg #[.string x.2.f0, .string x.2.f1]]

set_option maxRecDepth 100000 in
set_option maxHeartbeats 2000000 in
theorem back1_in (F : Fence) (n : Nat) (h56 : F.fn 56) (hro : F.round = none) (hn : 1 ≤ n) (l₀ Bs n₀ : Nat) (A : Option Addr) (cap : Nat) (l : List S30) (hlen : l.length ≤ 4611686018427387904) (J Jx : List (Int × S30) → World → Prop)
    (hY : ∀ pre x W, J pre W → pre.length < l.length → YieldAt F (n - 1) Tryd.prog l₀ (pairEnc x) W fun e W' =>
      (e = .returned (.bool true) ∧ J (pre ++ [x]) W' ∧ Below n₀ W W') ∨ (e = .returned (.bool false) ∧ Jx (pre ++ [x]) W'))
    (W : World) (hBs : Bs < n₀) (hBc : W.cell? ⟨Bs, 0, none⟩ = some (.slice A l.length cap)) (hC : ∀ W', Below n₀ W W' → Kd.C k30 W' A l.length l) (h0 : J [] W) :
    CallsIn F n Tryd.prog 56 #[.func (.yield l₀) #[] #[], .pointer (some ⟨Bs, 0, none⟩)] W fun e W' => (∃ v, e = .returned v) ∧
      ((∃ ys, ys = upto (backAt l) l.length ∧ J ys W') ∨ (∃ pre, (∃ k, k ≤ l.length ∧ pre = upto (backAt l) k) ∧ Jx pre W')) := by
  have HCC := Aside0.mk hC
  clear hC
  refine callsIn_of_wp Tryd.func56 rfl h56 ?_ hro
  simp only [Tryd.ntmps56, List.size_toArray, List.length_cons, List.length_nil, Nat.reduceAdd, Nat.reduceSub, Array.replicate_succ, Array.replicate_zero, List.push_toArray, List.append_toArray, List.nil_append, List.cons_append]
  gi_wp2
  gi_loopw [3] (fun i wr => ∃ (k : Nat) (i' : Int), k ≤ l.length ∧ -1 ≤ i' ∧ Aside0 (i' = (l.length : Int) - 1 - k) ∧ i = .int .i64 i' ∧ Aside0 (J (upto (backAt l) k) wr) ∧ Aside0 (Below n₀ W wr))
    (fun i _ => (intOf i + 1).toNat)
  case atStart => exact ⟨0, (l.length : Int) - 1, Nat.zero_le _, by omega, ⟨by simp⟩, rfl, ⟨h0⟩, ⟨Below.refl _ _⟩⟩
  case round =>
    obtain ⟨k, i', hk, hi0, HI, rfl, hJs, hnx⟩ := hrel
    have hcb := (hnx.out.cell (p := ⟨Bs, 0, none⟩) hBs).trans hBc
    by_cases hlt : k < l.length
    · obtain ⟨fn, tmps, assign, body, hy, hR⟩ := hY _ (backAt l k) wr hJs.out (by rw [upto_length]; exact hlt)
      have hi0 : (0 : Int) ≤ i' := by have := HI.out; omega
      have hi1 : i' < (l.length : Int) := by have := HI.out; omega
      have hbk : backAt l k = (i', rd_T30 l i') := by unfold backAt; rw [← HI.out]
      obtain ⟨ad, e, hx0, hx1⟩ := at_T30 (HCC.out wr hnx.out) _ hi0 hi1
      subst e
      rw [hbk] at hy hR
      dsimp only [pairEnc] at hy
      have HB := Aside0.mk hbk
      clear hbk
      gi_wp2
      refine hR.mono ?_
      rintro e W3 (⟨rfl, hJ3, hk3⟩ | ⟨rfl, hJx3⟩)
      · gi_wp2
        go_roundw
        case rel => exact ⟨k + 1, i' - 1, by omega, by omega, ⟨by have := HI.out; omega⟩, rfl, ⟨by rw [upto_succ, HB.out]; exact hJ3⟩, ⟨hnx.out.trans hk3⟩⟩
        case measure => simp [intOf]; omega
      · gi_wp2
        refine bodyPost_ret (results_none rfl _ _ _) rfl ?_
        exact ⟨⟨_, rfl⟩, .inr ⟨_, ⟨k + 1, by omega, by rw [upto_succ, HB.out]⟩, hJx3⟩⟩
    · obtain rfl : k = l.length := by omega
      have hneg : i' < 0 := by have := HI.out; omega
      gi_wp2
      go_end0
      exact ⟨⟨_, rfl⟩, .inl ⟨_, rfl, hJs.out⟩⟩
end Go.Proofs.YtidjihhklmfaiaaDoor.X
