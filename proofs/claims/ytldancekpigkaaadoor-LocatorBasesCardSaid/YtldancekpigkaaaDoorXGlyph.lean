/- glyph.Char, Start and Part, by hand: what a code point may be, as three functions of a number. -/
import Derived.Test.YtldancekpigkaaaDoorXAmong
namespace Go.Proofs.YtldancekpigkaaaDoor.X
open Go.RowKit

def charL : List (Int × Int) := [(9, 10), (13, 13), (32, 55295), (57344, 65533), (65536, 1114111)]
def charB (c : Int) : Bool := amongB c charL
theorem cells_pairs (w : World) (g : Nat) (l : List (Int × Int)) (cs : Array Value) (T : TypeId) (hs : cs.toList = l.flatMap fun p => [.int .i64 p.1, .int .i64 p.2]) (hg : w.heap.size = g) (k : Nat) (hk : k < l.length) :
    (w.alloc (.cells cs T)).cell? ⟨g, k * 2, none⟩ = some (.int .i64 (l.getD k (0, 0)).1) ∧ (w.alloc (.cells cs T)).cell? ⟨g, k * 2 + 1, none⟩ = some (.int .i64 (l.getD k (0, 0)).2) := by
  subst hg
  have H : ∀ (l : List (Int × Int)) (k : Nat), k < l.length → (l.flatMap fun p => [Value.int .i64 p.1, .int .i64 p.2])[k * 2]? = some (.int .i64 (l.getD k (0, 0)).1) ∧ (l.flatMap fun p => [Value.int .i64 p.1, .int .i64 p.2])[k * 2 + 1]? = some (.int .i64 (l.getD k (0, 0)).2) := by
    intro l
    induction l with
    | nil => intro k hk; simp at hk
    | cons p l ih =>
      intro k hk
      cases k with
      | zero => simp
      | succ k =>
        have := ih k (by simpa using hk)
        simpa [Nat.succ_mul] using this
  have := H l k hk
  rw [← hs] at this
  simp only [Array.getElem?_toList] at this
  have e : ∀ j v, cs[j]? = some v → (w.alloc (.cells cs T)).cell? ⟨w.heap.size, j, none⟩ = some v := by
    intro j v h
    rw [World.cell?_alloc_at _ _ _ _ rfl]
    exact h
  exact ⟨e _ _ this.1, e _ _ this.2⟩

theorem ret_bool {a b : Bool} (h : a = b) : Ending.returned (.bool a) = .returned (.bool b) := by rw [h]
theorem among_lit (c : Int) (l : List (Int × Int)) (n : Nat) (hn : l.length = n) (h100 : n ≤ 100) (cs : Array Value) (hs : cs.toList = l.flatMap fun p => [.int .i64 p.1, .int .i64 p.2]) (w : World) :
    Calls Tryd.prog 61 #[.int .i64 c, .slice (some ⟨w.heap.size, 0, none⟩) n n] (w.alloc (.cells cs 74)) fun e w' => e = .returned (.bool (amongB c l)) ∧ Below w.heap.size w w' := by
  subst hn
  refine (among_calls c w.heap.size l.length l (w.alloc (.cells cs 74)) h100 (by simp) (fun k hk => (cells_pairs w _ l cs 74 hs rfl k hk).1) (fun k hk => (cells_pairs w _ l cs 74 hs rfl k hk).2)).mono ?_
  rintro e w' ⟨rfl, hb⟩
  exact ⟨rfl, ((Below.refl _ w).alloc (Nat.le_refl _) _).trans (hb.mono (by simp))⟩

set_option maxHeartbeats 1000000 in
set_option maxRecDepth 100000 in
theorem char_calls (c : Int) (w : World) : Calls Tryd.prog 43 #[.int .i64 c] w fun e w' => e = .returned (.bool (charB c)) ∧ Below w.heap.size w w' := by
  go_enter Tryd.func43, Tryd.ntmps43
  go_wp2_with fail
  refine (among_lit c charL 5 rfl (by omega) _ rfl w).mono ?_
  rintro e w' ⟨rfl, hb⟩
  go_wp2
  go_ret
  exact ⟨rfl, hb⟩

end Go.Proofs.YtldancekpigkaaaDoor.X
