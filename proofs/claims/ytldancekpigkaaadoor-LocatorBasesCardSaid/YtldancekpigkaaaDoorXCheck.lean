/- glyph.Check, by hand: a text may be if it is UTF-8 and each of its code points may be. -/
import Derived.Test.YtldancekpigkaaaDoorXGlob
import Derived.Test.YtldancekpigkaaaDoorWWords
namespace Go.Proofs.YtldancekpigkaaaDoor.X
open Go.RowKit Go.Shelf Go.Proofs.YtldancekpigkaaaDoorW.PrintWords

/-- May each code point from a place on be? -/
def runesOk (s : ByteArray) : Nat → Nat → Bool
  | 0, _ => true
  | fuel + 1, pos => if pos < s.size then charB (Utf8.decode s pos).1 && runesOk s fuel (pos + (Utf8.decode s pos).2) else true
def checkR (s : ByteArray) : Int := if Lib.validD s.data.toList && runesOk s s.size 0 then 0 else 50

theorem width_pos (s : ByteArray) (pos : Nat) (h : pos < s.size) : 1 ≤ (Utf8.decode s pos).2 := by
  by_cases ha : (s[pos]'h).toNat < 128
  · rw [decode_ascii s pos h ha]
    exact Nat.le_refl _
  · exact (decode_high s pos h (by omega)).2
theorem runesOk_end (s : ByteArray) (fuel pos : Nat) (h : ¬ pos < s.size) : runesOk s fuel pos = true := by
  cases fuel with
  | zero => rfl
  | succ f => simp [runesOk, h]

theorem ret_int {k : IntKind} {a b : Int} (h : a = b) : Ending.returned (.int k a) = .returned (.int k b) := by rw [h]
set_option maxHeartbeats 1000000 in
set_option maxRecDepth 100000 in
theorem check_calls (s : ByteArray) (w : World) (hG : Glob w) (hs : s.size ≤ 9223372036854775807) :
    Calls Tryd.prog 23 #[.string s] w fun e w' => e = .returned (.int .i64 (checkR s)) ∧ Below w.heap.size w w' := by
  have HG := Lib.hid hG
  clear hG
  obtain ⟨v, hv⟩ : ∃ v, Lib.validD s.data.toList = v := ⟨_, rfl⟩
  have hV := Tryd.utf8_ValidString s w hs HG.out.tabs
  rw [hv] at hV
  cases v with
  | false =>
    have HE := Lib.hid (show checkR s = 50 from by unfold checkR; rw [hv]; rfl)
    clear hv
    go_enter Tryd.func23, Tryd.ntmps23
    go_wp2_with fail
    refine hV.mono ?_
    rintro e w' ⟨rfl, hb⟩
    go_wp2
    go_ret
    exact ⟨ret_int HE.out.symm, hb⟩
  | true =>
    have HE := Lib.hid (show checkR s = if runesOk s s.size 0 then 0 else 50 from by unfold checkR; rw [hv]; rfl)
    clear hv
    go_enter Tryd.func23, Tryd.ntmps23
    go_wp2_with fail
    refine hV.mono ?_
    rintro e w1 ⟨rfl, hb1⟩
    clear hV
    have HB1 := Lib.hid hb1
    clear hb1
    go_wp2
    go_loopw [4] (fun _ wr => ∃ (pos fuel : Nat), wr.heap[w1.heap.size]? = some (.stringIter s pos) ∧ Aside0 (Below w1.heap.size w1 wr) ∧ Aside0 (runesOk s s.size 0 = runesOk s fuel pos) ∧ s.size ≤ pos + fuel) (fun _ wr => s.size - wr.iterPos w1.heap.size)
    case atStart => exact ⟨0, s.size, World.iter_heap w1 s 0, ⟨(Below.refl _ w1).alloc (Nat.le_refl _) _⟩, ⟨rfl⟩, by omega⟩
    case round =>
      obtain ⟨pos, fuel, hk, hnx, hE, hf⟩ := hrel
      have hnp : wr.iterPos w1.heap.size = pos := by simp [World.iterPos, hk]
      have HNP := Aside0.mk hnp
      clear hnp
      by_cases hp : pos < s.size
      · obtain ⟨fuel, rfl⟩ : ∃ m, fuel = m + 1 := ⟨fuel - 1, by omega⟩
        have hnext : ∀ ty, (Instr.next (.pointer (some ⟨w1.heap.size, 0, none⟩)) true ty).run Tryd.prog wr = _ := fun ty => Lib.run_next_any_at wr w1.heap.size s pos ty hk hp
        have hk1 := Lib.iterAt_heap wr w1.heap.size s pos (pos + (Utf8.decode s pos).2) hk
        have hnx1 : Below w1.heap.size w1 (wr.iterAt w1.heap.size s (pos + (Utf8.decode s pos).2)) := Lib.below_iterAt hnx.out (Nat.le_refl _) s _
        have hw := width_pos s pos hp
        have hd := decode_le s pos
        have he : runesOk s (fuel + 1) pos = (charB (Utf8.decode s pos).1 && runesOk s fuel (pos + (Utf8.decode s pos).2)) := by simp [runesOk, hp]
        generalize wr.iterAt w1.heap.size s (pos + (Utf8.decode s pos).2) = W1 at hnext hk1 hnx1
        generalize (Utf8.decode s pos).1 = d at *
        generalize (Utf8.decode s pos).2 = n at *
        have hHN := Aside0.mk hnx1
        have HE2 := Aside0.mk (hE.out.trans he)
        clear hnx1 he hE hnx
        obtain ⟨b, hb⟩ : ∃ b, charB d = b := ⟨_, rfl⟩
        have HBB := Aside0.mk hb
        clear hb
        go_wp2_with fail
        refine (char_calls d _).mono ?_
        rintro e W2 ⟨rfl, hb⟩
        rw [HBB.out]
        have hlt1 : w1.heap.size < W1.heap.size := (Array.getElem?_eq_some_iff.1 hk1).1
        have hk2 : W2.heap[w1.heap.size]? = some (.stringIter s (pos + n)) := (hb.block _ hlt1).trans hk1
        have HB2 := Aside0.mk (hHN.out.trans (hb.mono (Nat.le_of_lt hlt1)))
        clear hb
        cases b with
        | true =>
          go_wp2
          go_roundw
          case rel => exact ⟨pos + n, fuel, hk2, HB2, ⟨by rw [HE2.out, HBB.out]; rfl⟩, by omega⟩
          case measure => simp only [World.iterPos, hk2, hk]; omega
        | false =>
          go_wp2
          go_ret
          exact ⟨ret_int (by rw [HE.out, HE2.out, HBB.out]; rfl), HB1.out.trans (HB2.out.mono HB1.out.size)⟩
      · have hnext : ∀ ty, (Instr.next (.pointer (some ⟨w1.heap.size, 0, none⟩)) true ty).run Tryd.prog wr = _ := fun ty => Lib.run_next_end_at wr w1.heap.size s pos ty hk hp
        go_wp2
        go_ret
        exact ⟨ret_int (by rw [HE.out, hE.out, runesOk_end s fuel pos hp]; rfl), HB1.out.trans (hnx.out.mono HB1.out.size)⟩

def glyph_Check.f (a0 : ByteArray) : Option Int := if a0.size ≤ 9223372036854775807 then some (checkR a0) else none
theorem glyph_Check.calls (a0 : ByteArray) (r : Int) (w : World) (hG : Glob w) (h : glyph_Check.f a0 = some r) :
    Calls Tryd.prog 23 #[.string a0] w fun e w' => e = .returned (.int .i64 r) ∧ Below w.heap.size w w' := by
  unfold glyph_Check.f at h
  split at h
  · rename_i hs
    cases h
    exact check_calls a0 w hG hs
  · cases h
end Go.Proofs.YtldancekpigkaaaDoor.X
