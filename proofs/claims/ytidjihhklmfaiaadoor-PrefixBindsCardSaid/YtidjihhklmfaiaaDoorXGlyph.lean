/- glyph.Char, Start and Part, by hand: what a code point may be, as three functions of a number. -/
import Derived.Test.YtidjihhklmfaiaaDoorXAmong
namespace Go.Proofs.YtidjihhklmfaiaaDoor.X
open Go.RowKit

def charL : List (Int × Int) := [(9, 10), (13, 13), (32, 55295), (57344, 65533), (65536, 1114111)]
def startL : List (Int × Int) := [(192, 214), (216, 246), (248, 767), (880, 893), (895, 8191), (8204, 8205), (8304, 8591), (11264, 12271), (12289, 55295), (63744, 64975), (65008, 65533), (65536, 983039)]
def partL : List (Int × Int) := [(45, 46), (48, 57), (183, 183), (768, 879), (8255, 8256)]
def charB (c : Int) : Bool := amongB c charL
def asciiStartB (c : Int) : Bool := c == 58 || c == 95 || (decide (65 ≤ c) && decide (c ≤ 90)) || (decide (97 ≤ c) && decide (c ≤ 122))
def startB (c : Int) : Bool := if c < 128 then asciiStartB c else amongB c startL
def partB (c : Int) : Bool := startB c || amongB c partL

theorem cells_pairs (w : World) (g : Nat) (l : List (Int × Int)) (cs : Array Value) (T : TypeId) (hs : cs.toList = l.flatMap fun p => [.int .i64 p.1, .int .i64 p.2]) (hg : w.heap.size = g) (k : Nat) (hk : k < l.length) :
    (w.alloc (.cells cs T)).cell? ⟨g, k * 2, none⟩ = some (.int .i64 (l.getD k (0, 0)).1) ∧ (w.alloc (.cells cs T)).cell? ⟨g, k * 2 + 1, none⟩ = some (.int .i64 (l.getD k (0, 0)).2) := by
  subst hg
  have H : ∀ (l : List (Int × Int)) (k : Nat), k < l.length → (l.flatMap fun p => [Value.int .i64 p.1, .int .i64 p.2])[k * 2]? = some (.int .i64 (l.getD k (0, 0)).1) ∧ (l.flatMap fun p => [Value.int .i64 p.1, .int .i64 p.2])[k * 2 + 1]? = some (.int .i64 (l.getD k (0, 0)).2) := by
    intro l
    induction l with
    | nil => intro k hk; simp at hk
    | cons p l ih =>
      intro k hk
      cases k with
      | zero => simp
      | succ k =>
        have := ih k (by simpa using hk)
        simpa [Nat.succ_mul] using this
  have := H l k hk
  rw [← hs] at this
  simp only [Array.getElem?_toList] at this
  have e : ∀ j v, cs[j]? = some v → (w.alloc (.cells cs T)).cell? ⟨w.heap.size, j, none⟩ = some v := by
    intro j v h
    rw [World.cell?_alloc_at _ _ _ _ rfl]
    exact h
  exact ⟨e _ _ this.1, e _ _ this.2⟩

theorem ret_bool {a b : Bool} (h : a = b) : Ending.returned (.bool a) = .returned (.bool b) := by rw [h]
theorem among_lit (c : Int) (l : List (Int × Int)) (n : Nat) (hn : l.length = n) (h100 : n ≤ 100) (cs : Array Value) (hs : cs.toList = l.flatMap fun p => [.int .i64 p.1, .int .i64 p.2]) (w : World) :
    Calls Tryd.prog 43 #[.int .i64 c, .slice (some ⟨w.heap.size, 0, none⟩) n n] (w.alloc (.cells cs 56)) fun e w' => e = .returned (.bool (amongB c l)) ∧ Below w.heap.size w w' := by
  subst hn
  refine (among_calls c w.heap.size l.length l (w.alloc (.cells cs 56)) h100 (by simp) (fun k hk => (cells_pairs w _ l cs 56 hs rfl k hk).1) (fun k hk => (cells_pairs w _ l cs 56 hs rfl k hk).2)).mono ?_
  rintro e w' ⟨rfl, hb⟩
  exact ⟨rfl, ((Below.refl _ w).alloc (Nat.le_refl _) _).trans (hb.mono (by simp))⟩

set_option maxHeartbeats 1000000 in
set_option maxRecDepth 100000 in
theorem char_calls (c : Int) (w : World) : Calls Tryd.prog 23 #[.int .i64 c] w fun e w' => e = .returned (.bool (charB c)) ∧ Below w.heap.size w w' := by
  go_enter Tryd.func23, Tryd.ntmps23
  go_wp2_with fail
  refine (among_lit c charL 5 rfl (by omega) _ rfl w).mono ?_
  rintro e w' ⟨rfl, hb⟩
  go_wp2
  go_ret
  exact ⟨rfl, hb⟩

set_option maxHeartbeats 1000000 in
set_option maxRecDepth 100000 in
theorem start_hi (c : Int) (w : World) (h : 128 ≤ c) : Calls Tryd.prog 25 #[.int .i64 c] w fun e w' => e = .returned (.bool (startB c)) ∧ Below w.heap.size w w' := by
  have HE := Lib.hid (show startB c = amongB c startL from by unfold startB; rw [if_neg (by omega)])
  go_enter Tryd.func25, Tryd.ntmps25
  go_wp2_with fail
  refine (among_lit c startL 12 rfl (by omega) _ rfl w).mono ?_
  rintro e w' ⟨rfl, hb⟩
  go_wp2
  go_ret
  exact ⟨ret_bool HE.out.symm, hb⟩

set_option maxHeartbeats 1000000 in
set_option maxRecDepth 100000 in
theorem start_lo (c : Int) (w : World) (h : c < 128) : Calls Tryd.prog 25 #[.int .i64 c] w fun e w' => e = .returned (.bool (startB c)) ∧ Below w.heap.size w w' := by
  have hE : startB c = asciiStartB c := by unfold startB; rw [if_pos h]
  unfold asciiStartB at hE
  have HE := Lib.hid hE
  clear hE
  have HB := Lib.hid (Below.refl w.heap.size w)
  by_cases h1 : c = 58
  · subst h1
    go_enter Tryd.func25, Tryd.ntmps25
    go_wp2
    go_ret
    exact ⟨by rw [HE.out]; rfl, HB.out⟩
  · have b1 : (c == 58) = false := beq_eq_false_iff_ne.mpr h1
    clear h1
    by_cases h2 : c = 95
    · subst h2
      go_enter Tryd.func25, Tryd.ntmps25
      go_wp2
      go_ret
      exact ⟨by rw [HE.out]; rfl, HB.out⟩
    · have b2 : (c == 95) = false := beq_eq_false_iff_ne.mpr h2
      clear h2
      by_cases h3 : 65 ≤ c <;> by_cases h4 : c ≤ 90 <;> by_cases h5 : 97 ≤ c <;> by_cases h6 : c ≤ 122
      all_goals first
        | (exfalso; omega)
        | (go_enter Tryd.func25, Tryd.ntmps25
           go_wp2
           go_ret
           exact ⟨by rw [HE.out]; simp [b1, b2, h3, h4, h5, h6], HB.out⟩)

theorem start_calls (c : Int) (w : World) : Calls Tryd.prog 25 #[.int .i64 c] w fun e w' => e = .returned (.bool (startB c)) ∧ Below w.heap.size w w' := by
  by_cases h : c < 128
  · exact start_lo c w h
  · exact start_hi c w (by omega)

set_option maxHeartbeats 1000000 in
set_option maxRecDepth 100000 in
theorem part_calls (c : Int) (w : World) : Calls Tryd.prog 27 #[.int .i64 c] w fun e w' => e = .returned (.bool (partB c)) ∧ Below w.heap.size w w' := by
  obtain ⟨b, hb⟩ : ∃ b, startB c = b := ⟨_, rfl⟩
  have HE := Lib.hid hb
  clear hb
  have HP := Lib.hid (show partB c = (startB c || amongB c partL) from rfl)
  go_enter Tryd.func27, Tryd.ntmps27
  go_wp2_with fail
  refine (start_calls c _).mono ?_
  rintro e w1 ⟨rfl, hb1⟩
  rw [HE.out]
  have HB1 := Lib.hid hb1
  clear hb1
  cases b with
  | true =>
    go_wp2
    go_ret
    exact ⟨by rw [HP.out, HE.out]; rfl, HB1.out⟩
  | false =>
    go_wp2_with fail
    refine (among_lit c partL 5 rfl (by omega) _ rfl w1).mono ?_
    rintro e w' ⟨rfl, hb⟩
    go_wp2
    go_ret
    exact ⟨by rw [HP.out, HE.out]; rfl, HB1.out.trans (hb.mono HB1.out.size)⟩
end Go.Proofs.YtidjihhklmfaiaaDoor.X
