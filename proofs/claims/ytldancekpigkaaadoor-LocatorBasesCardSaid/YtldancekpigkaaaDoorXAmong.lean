/- glyph.among, by hand: it tells whether a number is in one of some ranges. -/
import Derived.Test.YtldancekpigkaaaDoorProg
import Derived.Below
import Derived.Deep.Draws
import Derived.WalkKit
import Derived.KernelRfl
import Derived.Deep.LoopGhost
import Derived.Deep.QuietTactic
import Derived.BigQuiet
import Derived.Outline
import Derived.Laws.Rows
import Derived.Lib.Hide
namespace Go.Proofs.YtldancekpigkaaaDoor.X
open Go.RowKit

def inR (c : Int) (r : Int × Int) : Bool := decide (r.1 ≤ c) && decide (c ≤ r.2)
def amongB (c : Int) (l : List (Int × Int)) : Bool := l.any (inR c)

theorem amongB_drop (c : Int) (l : List (Int × Int)) (k : Nat) (h : k < l.length) : amongB c (l.drop k) = (inR c (l.getD k (0, 0)) || amongB c (l.drop (k + 1))) := by
  unfold amongB
  rw [List.drop_eq_getElem_cons h, List.any_cons, List.getD_eq_getElem?_getD, List.getElem?_eq_getElem h]
  rfl

set_option maxHeartbeats 1000000 in
set_option maxRecDepth 100000 in
theorem among_calls (c : Int) (g cap : Nat) (l : List (Int × Int)) (w : World) (hl : l.length ≤ 100) (hg : g < w.heap.size)
    (hc0 : ∀ k, k < l.length → w.cell? ⟨g, k * 2, none⟩ = some (.int .i64 (l.getD k (0, 0)).1)) (hc1 : ∀ k, k < l.length → w.cell? ⟨g, k * 2 + 1, none⟩ = some (.int .i64 (l.getD k (0, 0)).2)) :
    Calls Tryd.prog 61 #[.int .i64 c, .slice (some ⟨g, 0, none⟩) l.length cap] w fun e w' => e = .returned (.bool (amongB c l)) ∧ Below w.heap.size w w' := by
  have H0 := Lib.hid hc0
  have H1 := Lib.hid hc1
  clear hc0 hc1
  have HB := Lib.hid (Below.refl w.heap.size w)
  go_enter Tryd.func61, Tryd.ntmps61
  go_wp2
  go_loopw [9] (fun i wr => ∃ k : Nat, k ≤ l.length ∧ i = .int .i64 k ∧ amongB c l = amongB c (l.drop k) ∧ Below w.heap.size w wr) (fun i _ => l.length - (intOf i).toNat)
  case atStart => exact ⟨0, Nat.zero_le _, rfl, by simp, HB.out⟩
  case round =>
    obtain ⟨k, hk, rfl, he, hb⟩ := hrel
    have HE := Lib.hid he
    have HBB := Lib.hid hb
    clear he hb
    by_cases hlt : k < l.length
    · have c0 := (HBB.out.cell (p := ⟨g, k * 2, none⟩) hg).trans (H0.out k hlt)
      have c1 := (HBB.out.cell (p := ⟨g, k * 2 + 1, none⟩) hg).trans (H1.out k hlt)
      have hd := amongB_drop c l k hlt
      obtain ⟨lo, hlo⟩ : ∃ x, (l.getD k (0, 0)).1 = x := ⟨_, rfl⟩
      obtain ⟨hi, hhi⟩ : ∃ x, (l.getD k (0, 0)).2 = x := ⟨_, rfl⟩
      rw [hlo] at c0
      rw [hhi] at c1
      have hr : inR c (l.getD k (0, 0)) = (decide (lo ≤ c) && decide (c ≤ hi)) := by unfold inR; rw [hlo, hhi]
      have HD := Lib.hid hd
      have HR := Lib.hid hr
      clear hd hr hlo hhi
      by_cases h1 : lo ≤ c
      · by_cases h2 : c ≤ hi
        · go_wp2
          go_ret
          exact ⟨by rw [HE.out, HD.out, HR.out]; simp [h1, h2], (HBB.out.alloc (by exact HBB.out.size) _)⟩
        · go_wp2
          go_roundw
          case rel => exact ⟨k + 1, by omega, by go_num, by rw [HE.out, HD.out, HR.out]; simp [h2], HBB.out.alloc (by exact HBB.out.size) _⟩
          case measure => simp [intOf]; omega
      · go_wp2
        go_roundw
        case rel => exact ⟨k + 1, by omega, by go_num, by rw [HE.out, HD.out, HR.out]; simp [h1], HBB.out.alloc (by exact HBB.out.size) _⟩
        case measure => simp [intOf]; omega
    · obtain rfl : k = l.length := by omega
      go_wp2
      go_ret
      exact ⟨by rw [HE.out]; simp [amongB], HBB.out⟩
end Go.Proofs.YtldancekpigkaaaDoor.X
