/- locator.letter, digit and scheme, by hand: may a text be a scheme? -/
import Derived.Test.YtldancekpigkaaaDoorXCheck
import Derived.Lib.ConvBytes
import Derived.Laws.BytesArg
import Derived.Deep.RegionWith
import Derived.RegionTactic
import Derived.ChangeAlike
import Derived.Deep.QuietTactic
import Derived.Deep.LoopGhost
namespace Go.Proofs.YtldancekpigkaaaDoor.X
open Go.RowKit Go.Shelf Go.Proofs.YtldancekpigkaaaDoorW.PrintWords

attribute [local go_sem] Oper.semAt_some

def letterI (d : Int) : Bool := decide (97 ≤ Go.bits .or .u8 d 32) && decide (Go.bits .or .u8 d 32 ≤ 122)
def digitI (d : Int) : Bool := decide (48 ≤ d) && decide (d ≤ 57)
def plusI (d : Int) : Bool := decide (0 ≤ Lib.indexByte [43, 45, 46] d.toNat.toUInt8)

set_option maxHeartbeats 1000000 in
set_option maxRecDepth 100000 in
theorem letter_calls (d : Int) (w : World) : Calls Tryd.prog 44 #[.int .u8 d] w fun e w' => e = .returned (.bool (letterI d)) ∧ w' = w := by
  by_cases h : 97 ≤ Go.bits .or .u8 d 32
  · have h1 : decide (97 ≤ Go.bits .or .u8 d 32) = true := decide_eq_true h
    have HE := Lib.hid (show letterI d = decide (Go.bits .or .u8 d 32 ≤ 122) from by unfold letterI; rw [h1]; rfl)
    clear h
    go_enter Tryd.func44, Tryd.ntmps44
    go_wp2
    go_ret
    exact ⟨by rw [HE.out]; rfl, rfl⟩
  · have h1 : decide (97 ≤ Go.bits .or .u8 d 32) = false := decide_eq_false h
    have HE := Lib.hid (show letterI d = false from by unfold letterI; rw [h1]; rfl)
    clear h
    go_enter Tryd.func44, Tryd.ntmps44
    go_wp2
    go_ret
    exact ⟨by rw [HE.out]; rfl, rfl⟩
set_option maxHeartbeats 1000000 in
set_option maxRecDepth 100000 in
theorem digit_calls (d : Int) (w : World) : Calls Tryd.prog 45 #[.int .u8 d] w fun e w' => e = .returned (.bool (digitI d)) ∧ w' = w := by
  by_cases h : 48 ≤ d
  · have h1 : decide (48 ≤ d) = true := decide_eq_true h
    have HE := Lib.hid (show digitI d = decide (d ≤ 57) from by unfold digitI; rw [h1]; rfl)
    clear h
    go_enter Tryd.func45, Tryd.ntmps45
    go_wp2
    go_ret
    exact ⟨by rw [HE.out]; rfl, rfl⟩
  · have h1 : decide (48 ≤ d) = false := decide_eq_false h
    have HE := Lib.hid (show digitI d = false from by unfold digitI; rw [h1]; rfl)
    clear h
    go_enter Tryd.func45, Tryd.ntmps45
    go_wp2
    go_ret
    exact ⟨by rw [HE.out]; rfl, rfl⟩
def schemeB : Bool → List UInt8 → Bool
  | _, [] => true
  | f, c :: t => (letterI (c.toNat : Int) || (!f && (digitI (c.toNat : Int) || plusI (c.toNat : Int)))) && schemeB false t
theorem scheme_step (l : List UInt8) (i : Nat) (h : i < l.length) : schemeB (decide (i = 0)) (l.drop i) = ((letterI ((l.getD i 0).toNat : Int) || (!(decide (i = 0)) && (digitI ((l.getD i 0).toNat : Int) || plusI ((l.getD i 0).toNat : Int)))) && schemeB (decide (i + 1 = 0)) (l.drop (i + 1))) := by
  rw [List.drop_eq_getElem_cons h, List.getD_eq_getElem?_getD, List.getElem?_eq_getElem h, Option.getD_some, schemeB]
  rfl
set_option maxHeartbeats 2000000 in
set_option maxRecDepth 100000 in
theorem scheme_calls (s : ByteArray) (w : World) (hs : s.size ≤ 140737488355328) :
    Calls Tryd.prog 24 #[.string s] w fun e w' => e = .returned (.bool (schemeB true (L s) && !(L s).isEmpty)) ∧ Below w.heap.size w w' := by
  have kc := Lib.run_convert_string_bytes (P := Tryd.prog) w 9 36 5 s Tryd.underlying9 Tryd.underlying36 Tryd.underlying5
  have hcell := fun j hj => Lib.bytesWorld_cell w 5 s j hj
  have hbel : Below w.heap.size w (Lib.bytesWorld w 5 s) := ⟨rfl, rfl, rfl, by rw [Lib.bytesWorld_size]; omega, fun k hk => Lib.bytesWorld_at_old w 5 s k hk⟩
  have HBEL := Aside0.mk hbel
  clear hbel
  generalize Lib.bytesWorld w 5 s = W1 at *
  generalize grownCap w s.size 0 5 = cap at *
  go_enter Tryd.func24, Tryd.ntmps24
  go_wp2
  go_loopg [8] (s.size + 1) (fun kq v8 wr => ∃ (i : Nat), v8 = .int .i64 i ∧ wr = W1 ∧ Aside0 (schemeB true (L s) = schemeB (decide (i = 0)) ((L s).drop i)) ∧ Aside0 (i + kq = s.size + 1 ∧ i ≤ s.size))
  case atStart => exact ⟨0, rfl, rfl, ⟨rfl⟩, ⟨by omega, by omega⟩⟩
  case round =>
    obtain ⟨i, rfl, rfl, HE, HK⟩ := hrel
    cases gk with
    | zero => exact absurd HK.out (by omega)
    | succ k1 =>
      by_cases hi : i < s.size
      · have hc := hcell i hi
        have hst := scheme_step (L s) i hi
        change wr.cell? _ = some (Value.int .u8 (((L s).getD i 0).toNat : Int)) at hc
        clear hcell kc
        generalize (L s).getD i 0 = c at hc hst
        generalize (c.toNat : Int) = d at hc hst
        have HS := Aside0.mk (show wrap64 ((i : Int) + 1) = ((i + 1 : Nat) : Int) by unfold wrap64; omega)
        obtain ⟨b0, hb0⟩ : ∃ b, letterI d = b := ⟨_, rfl⟩
        obtain ⟨b1, hb1⟩ : ∃ b, decide (i = 0) = b := ⟨_, rfl⟩
        obtain ⟨b2, hb2⟩ : ∃ b, digitI d = b := ⟨_, rfl⟩
        obtain ⟨b3, hb3⟩ : ∃ b, plusI d = b := ⟨_, rfl⟩
        rw [hb0, hb1, hb2, hb3] at hst
        have hb1' : ((i : Int) == 0) = b1 := by rw [← hb1, Bool.eq_iff_iff, beq_iff_eq, decide_eq_true_iff]; omega
        have hb3' : decide ((Lib.indexByte [43, 45, 46] d.toNat.toUInt8) < 0) = !b3 := by
          rw [← hb3]; unfold plusI; rw [← decide_not]
          exact decide_eq_decide.2 (by omega)
        have HE1 := Aside0.mk (show schemeB true (L s) = ((b0 || (!b1 && (b2 || b3))) && schemeB (decide (i + 1 = 0)) ((L s).drop (i + 1))) from HE.out.trans (by rw [hb1]; exact hst))
        have LC := letter_calls d wr
        have DC := digit_calls d wr
        have IC := Tryd.strings_IndexByte ⟨#[43, 45, 46]⟩ d wr
        rw [hb0] at LC
        rw [hb2] at DC
        have hlt : decide ((i : Int) < (s.size : Int)) = true := decide_eq_true (by omega)
        clear hb0 hb1 hb2 hb3 hst
        cases b0 with
        | true =>
          go_wp2_with (first | (go_at_call 44; refine LC.mono ?_; rintro e w9 ⟨rfl, rfl⟩) | (go_at_call 45; refine DC.mono ?_; rintro e w9 ⟨rfl, rfl⟩) | (go_at_call 46; refine IC.mono ?_; rintro e w9 ⟨rfl, rfl⟩))
          go_roundg k1
          case measure => omega
          case rel => exact ⟨i + 1, congrArg (Value.int IntKind.i64) (show (i : Int) + 1 = ((i + 1 : Nat) : Int) from rfl), rfl, ⟨HE1.out.trans rfl⟩, ⟨by have := HK.out; omega, by omega⟩⟩
        | false =>
          cases b1 with
          | true =>
            go_wp2_with (first | (go_at_call 44; refine LC.mono ?_; rintro e w9 ⟨rfl, rfl⟩) | (go_at_call 45; refine DC.mono ?_; rintro e w9 ⟨rfl, rfl⟩) | (go_at_call 46; refine IC.mono ?_; rintro e w9 ⟨rfl, rfl⟩))
            go_ret
            exact ⟨by rw [HE1.out]; rfl, HBEL.out⟩
          | false =>
            cases b2 with
            | true =>
              go_wp2_with (first | (go_at_call 44; refine LC.mono ?_; rintro e w9 ⟨rfl, rfl⟩) | (go_at_call 45; refine DC.mono ?_; rintro e w9 ⟨rfl, rfl⟩) | (go_at_call 46; refine IC.mono ?_; rintro e w9 ⟨rfl, rfl⟩))
              go_roundg k1
              case measure => omega
              case rel => exact ⟨i + 1, congrArg (Value.int IntKind.i64) (show (i : Int) + 1 = ((i + 1 : Nat) : Int) from rfl), rfl, ⟨HE1.out.trans rfl⟩, ⟨by have := HK.out; omega, by omega⟩⟩
            | false =>
              cases b3 with
              | true =>
                go_wp2_with (first | (go_at_call 44; refine LC.mono ?_; rintro e w9 ⟨rfl, rfl⟩) | (go_at_call 45; refine DC.mono ?_; rintro e w9 ⟨rfl, rfl⟩) | (go_at_call 46; refine IC.mono ?_; rintro e w9 ⟨rfl, rfl⟩))
                go_roundg k1
                case measure => omega
                case rel => exact ⟨i + 1, congrArg (Value.int IntKind.i64) (show (i : Int) + 1 = ((i + 1 : Nat) : Int) from rfl), rfl, ⟨HE1.out.trans rfl⟩, ⟨by have := HK.out; omega, by omega⟩⟩
              | false =>
                go_wp2_with (first | (go_at_call 44; refine LC.mono ?_; rintro e w9 ⟨rfl, rfl⟩) | (go_at_call 45; refine DC.mono ?_; rintro e w9 ⟨rfl, rfl⟩) | (go_at_call 46; refine IC.mono ?_; rintro e w9 ⟨rfl, rfl⟩))
                go_ret
                exact ⟨by rw [HE1.out]; rfl, HBEL.out⟩
      · have hlt : decide ((i : Int) < (s.size : Int)) = false := decide_eq_false (by omega)
        have HE2 := Aside0.mk (show schemeB true (L s) = true from by rw [HE.out, List.drop_eq_nil_of_le (show (L s).length ≤ i from by have : (L s).length = s.size := rfl; omega)]; rfl)
        have hle : s.toList.isEmpty = (L s).isEmpty := by rw [show s.toList = L s from Lib.toList_data s]
        obtain ⟨b, hb⟩ : ∃ b, (L s).isEmpty = b := ⟨_, rfl⟩
        rw [hb] at hle
        have HB := Aside0.mk hb
        clear hb
        go_wp2
        go_ret
        exact ⟨by rw [HE2.out, HB.out]; rfl, HBEL.out⟩
def locator_scheme.f (a0 : ByteArray) : Option Bool := if a0.size ≤ 140737488355328 then some (schemeB true (L a0) && !(L a0).isEmpty) else none
theorem locator_scheme.calls (a0 : ByteArray) (r : Bool) (w : World) (h : locator_scheme.f a0 = some r) :
    Calls Tryd.prog 24 #[.string a0] w fun e w' => e = .returned (.bool r) ∧ Below w.heap.size w w' := by
  unfold locator_scheme.f at h
  split at h
  · rename_i hs
    cases h
    exact scheme_calls a0 w hs
  · cases h
end Go.Proofs.YtldancekpigkaaaDoor.X
