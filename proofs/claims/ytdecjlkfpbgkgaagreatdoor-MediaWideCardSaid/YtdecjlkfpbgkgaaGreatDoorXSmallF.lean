/- media.Small, walked by hand. -/
import Derived.Test.YtdecjlkfpbgkgaaGreatDoorXTok
import Derived.Lib.ConvBytes
import Derived.Laws.BytesArg
import Derived.Deep.RegionWith
import Derived.RegionTactic
import Derived.ChangeAlike
import Derived.Deep.QuietTactic
import Derived.Lib.SlBytesRow
namespace Go.Proofs.YtdecjlkfpbgkgaaGreatDoor.X
open Go.RowKit Go.Shelf Go.Proofs.YtdecjlkfpbgkgaaGreatDoorW.PrintWords
open Go.Proofs.YtdecjlkfpbgkgaaGreatDoor.F (okV valB okV_int all_drop lowC small)
def smallTo (l : List UInt8) (i : Nat) : List UInt8 := (l.take i).map lowC ++ l.drop i
theorem smallTo_zero (l : List UInt8) : smallTo l 0 = l := by simp [smallTo]
theorem smallTo_all (l : List UInt8) (i : Nat) (h : l.length ≤ i) : smallTo l i = small l := by
  unfold smallTo small
  rw [List.take_of_length_le h, List.drop_eq_nil_of_le h, List.append_nil]
theorem smallTo_len (l : List UInt8) (i : Nat) : (smallTo l i).length = l.length := by
  unfold smallTo
  rw [List.length_append, List.length_map, List.length_take, List.length_drop]
  omega
theorem smallTo_get (l : List UInt8) (i : Nat) (h : i < l.length) : (smallTo l i)[i]? = some l[i] := by
  unfold smallTo
  rw [List.getElem?_append_right (by rw [List.length_map, List.length_take]; omega), List.length_map, List.length_take, Nat.min_eq_left (by omega), Nat.sub_self, List.getElem?_drop, Nat.add_zero, List.getElem?_eq_getElem h]
theorem smallTo_succ (l : List UInt8) (i : Nat) (h : i < l.length) : smallTo l (i + 1) = (smallTo l i).set i (lowC l[i]) := by
  unfold smallTo
  have e : (l.take i).length = i := by rw [List.length_take]; omega
  rw [List.take_succ_eq_append_getElem h, List.map_append, List.drop_eq_getElem_cons h, List.set_append_right _ _ (by rw [List.length_map, e]; exact Nat.le_refl _), List.length_map, e, Nat.sub_self, List.set_cons_zero]
  simp
/-- The bytes l stand at the head of block g. -/
def BytesAt (W : World) (g : Nat) (l : List UInt8) : Prop := ∃ (cs : Array Value) (z : Nat), W.heap[g]? = some (.cells cs 5 (z, z + 1)) ∧ l.length ≤ z ∧ ∀ (j : Nat) (hj : j < l.length), cs[j]? = some (.int .u8 (l[j].toNat : Int))
theorem BytesAt.cell {W : World} {g : Nat} {l : List UInt8} (h : BytesAt W g l) (j : Nat) (hj : j < l.length) : W.cell? ⟨g, j, none⟩ = some (.int .u8 (l[j].toNat : Int)) := by
  obtain ⟨cs, z, hk, hz, hc⟩ := h
  simp only [World.cell?, hk]
  exact hc j hj
theorem BytesAt.frozen {W : World} {g : Nat} {l : List UInt8} (h : BytesAt W g l) (j : Nat) (hj : j < l.length) : W.frozen? ⟨g, j, none⟩ = false := by
  obtain ⟨cs, z, hk, hz, hc⟩ := h
  simp [World.frozen?, hk]
  omega
theorem BytesAt.set {W : World} {g : Nat} {l : List UInt8} (h : BytesAt W g l) (i : Nat) (c : UInt8) : BytesAt (W.setCell ⟨g, i, none⟩ (.int .u8 (c.toNat : Int))) g (l.set i c) := by
  obtain ⟨cs, z, hk, hz, hc⟩ := h
  refine ⟨cs.setIfInBounds i (.int .u8 (c.toNat : Int)), z, ?_, by rw [List.length_set]; exact hz, fun j hj => ?_⟩
  · obtain ⟨hlt, hk'⟩ := Array.getElem?_eq_some_iff.1 hk
    show (W.heap.modify g _)[g]? = _
    rw [Array.getElem?_eq_getElem (by rw [Array.size_modify]; exact hlt), Array.getElem_modify_self, hk']
    rfl
  · rw [List.length_set] at hj
    have hjs : j < cs.size := (Array.getElem?_eq_some_iff.1 (hc j hj)).1
    by_cases e : i = j
    · subst e
      rw [Array.getElem?_setIfInBounds_self_of_lt hjs, List.getElem_set_self]
    · rw [Array.getElem?_setIfInBounds_ne e, List.getElem_set_ne e]
      exact hc j hj
theorem BytesAt.new (w : World) (s : ByteArray) : BytesAt (Lib.bytesWorld w 5 s) w.heap.size (L s) := by
  refine ⟨_, _, Lib.bytesWorld_at_new w 5 s, ?_, fun j hj => ?_⟩
  · show s.data.toList.length ≤ _
    simp [Lib.bytesCells]
  · have := Lib.bytesWorld_cell w 5 s j hj
    simp only [World.cell?, Lib.bytesWorld_at_new] at this
    rw [List.getD_eq_getElem?_getD, List.getElem?_eq_getElem hj, Option.getD_some] at this
    exact this
theorem BytesAt.text {W : World} {g : Nat} {l : List UInt8} (h : BytesAt W g l) (n cap : Nat) (hn : l.length = n) : (convert 39 9 (.slice (some ⟨g, 0, none⟩) n cap)).run Tryz.prog W = .ok (.string (M l)) W := by
  subst hn
  exact Lib.run_convert_whole W 39 5 9 Tryz.underlying39 Tryz.underlying5 Tryz.underlying9 g 0 (M l) (fun i hi => by rw [Nat.zero_add]; exact h.cell i hi) cap
theorem low_int : ∀ c : UInt8, ((65 ≤ (c.toNat : Int) ∧ (c.toNat : Int) ≤ 90) ∧ Go.bits .or .u8 (c.toNat : Int) 32 = ((lowC c).toNat : Int)) ∨ (¬ (65 ≤ (c.toNat : Int) ∧ (c.toNat : Int) ≤ 90) ∧ lowC c = c) := by
  have h : ∀ n : Nat, n < 256 → ((65 ≤ ((UInt8.ofNat n).toNat : Int) ∧ ((UInt8.ofNat n).toNat : Int) ≤ 90) ∧ Go.bits .or .u8 ((UInt8.ofNat n).toNat : Int) 32 = ((lowC (UInt8.ofNat n)).toNat : Int)) ∨ (¬ (65 ≤ ((UInt8.ofNat n).toNat : Int) ∧ ((UInt8.ofNat n).toNat : Int) ≤ 90) ∧ lowC (UInt8.ofNat n) = UInt8.ofNat n) := by decide +kernel
  intro c
  have := h c.toNat c.toNat_lt
  rwa [UInt8.ofNat_toNat] at this
set_option maxHeartbeats 1000000 in
set_option maxRecDepth 100000 in
theorem small_calls (s : ByteArray) (w : World) (hs : s.size ≤ 140737488355328) :
    Calls Tryz.prog 25 #[.string s] w fun e w' => e = .returned (.string (M (small (L s)))) ∧ Below w.heap.size w w' := by
  have kc := Lib.run_convert_string_bytes (P := Tryz.prog) w 9 39 5 s Tryz.underlying9 Tryz.underlying39 Tryz.underlying5
  have HN := Aside0.mk (BytesAt.new w s)
  have hbel : Below w.heap.size w (Lib.bytesWorld w 5 s) := ⟨rfl, rfl, rfl, by rw [Lib.bytesWorld_size]; omega, fun k hk => Lib.bytesWorld_at_old w 5 s k hk⟩
  have HBEL := Aside0.mk hbel
  have hz : (L s).length = s.size := rfl
  clear hbel
  generalize Lib.bytesWorld w 5 s = W1 at *
  generalize grownCap w s.size 0 5 = cap at *
  generalize hg : w.heap.size = g at *
  go_enter Tryz.func25, Tryz.ntmps25
  go_wp2
  go_loopg [10] (s.size + 1) (fun kq v10 wr => ∃ (i : Nat), v10 = .int .i64 i ∧ Aside0 (BytesAt wr g (smallTo (L s) i)) ∧ Aside0 (Below g w wr) ∧ Aside0 (i + kq = s.size + 1 ∧ i ≤ s.size))
  case atStart => exact ⟨0, rfl, ⟨by rw [smallTo_zero]; exact HN.out⟩, HBEL, ⟨by omega, by omega⟩⟩
  case round =>
    obtain ⟨i, rfl, HA, HB, HK⟩ := hrel
    clear kc
    cases gk with
    | zero => exact absurd HK.out (by omega)
    | succ k1 =>
      by_cases hi : i < s.size
      · have hl : i < (smallTo (L s) i).length := by rw [smallTo_len]; exact hi
        have hget : (smallTo (L s) i)[i]'hl = (L s)[i]'hi := by
          have := smallTo_get (L s) i hi
          rw [List.getElem?_eq_getElem hl] at this
          exact Option.some.inj this
        have hc := HA.out.cell i hl
        have hf := HA.out.frozen i hl
        have hset := HA.out.set i (lowC ((L s)[i]'hi))
        rw [← smallTo_succ (L s) i hi] at hset
        have hno : lowC ((L s)[i]'hi) = (L s)[i]'hi → smallTo (L s) (i + 1) = smallTo (L s) i := fun e => by
          rw [smallTo_succ (L s) i hi, e, ← hget, List.set_getElem_self]
        rw [hget] at hc
        have hlow := low_int ((L s)[i]'hi)
        generalize (L s)[i]'hi = c at hc hset hno hlow
        have hlt : decide ((i : Int) < (s.size : Int)) = true := decide_eq_true (by omega)
        rcases hlow with ⟨⟨h1, h2⟩, h3⟩ | ⟨h1, h2⟩
        · have HS := Aside0.mk hset
          clear hset hno hget
          generalize (lowC c).toNat = lc at *
          generalize (c.toNat : Int) = d at *
          go_wp2
          go_roundg k1
          case measure => omega
          case rel => exact ⟨i + 1, congrArg (Value.int IntKind.i64) (show (i : Int) + 1 = ((i + 1 : Nat) : Int) from rfl), HS, ⟨HB.out.setCell (p := ⟨g, i, none⟩) (Nat.le_refl _) _⟩, ⟨by have := HK.out; omega, by omega⟩⟩
        · have HS := Aside0.mk (hno h2)
          clear hset hno hget h2
          generalize (c.toNat : Int) = d at *
          go_wp2
          all_goals
            go_roundg k1
            case measure => omega
            case rel => exact ⟨i + 1, congrArg (Value.int IntKind.i64) (show (i : Int) + 1 = ((i + 1 : Nat) : Int) from rfl), ⟨by rw [HS.out]; exact HA.out⟩, HB, ⟨by have := HK.out; omega, by omega⟩⟩
      · have hlt : decide ((i : Int) < (s.size : Int)) = false := decide_eq_false (by omega)
        have ha := HA.out
        rw [smallTo_all (L s) i (by omega)] at ha
        have kb := ha.text s.size cap (by show (List.map lowC (L s)).length = _; rw [List.length_map]; exact hz)
        clear ha
        go_wp2
        go_ret
        exact ⟨rfl, HB.out⟩
end Go.Proofs.YtdecjlkfpbgkgaaGreatDoor.X
