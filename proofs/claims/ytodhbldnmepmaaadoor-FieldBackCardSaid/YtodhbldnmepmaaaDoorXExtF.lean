/- What the printed texts of the fields lean on beyond the kit: the hand-made contracts in the printer's shape. -/
import Derived.Test.YtodhbldnmepmaaaDoorXFParse
import Derived.Test.YtodhbldnmepmaaaDoorXFPrint
namespace Go.Proofs.YtodhbldnmepmaaaDoor.X
open Go.RowKit Go.Shelf Go.Proofs.YtodhbldnmepmaaaDoorW.PrintWords Go.Proofs.YtodhbldnmepmaaaDoor.Pf
set_option linter.unusedVariables false
theorem xx_ne_nil (l : List UInt8) : (l != []) = !l.isEmpty := by cases l <;> rfl
theorem xx_eq_nil (l : List UInt8) : (l == []) = l.isEmpty := by cases l <;> rfl
def media_Small.f (a0 : ByteArray) : Option ByteArray := if a0.size ≤ 140737488355328 then some (M (F.small (L a0))) else none
theorem media_Small.calls (a0 : ByteArray) (r : ByteArray) (w : World) (h : media_Small.f a0 = some r) :
    Calls Tryd.prog 57 #[.string a0] w fun e w' => e = .returned (.string r) ∧ Below w.heap.size w w' := by
  unfold media_Small.f at h
  split at h
  · rename_i hs
    cases h
    exact small_calls a0 w hs
  · cases h
def field_value.f (a0 : ByteArray) : Option Bool := if a0.size ≤ 140737488355328 then some (F.valB (L a0)) else none
theorem field_value.calls (a0 : ByteArray) (r : Bool) (w : World) (h : field_value.f a0 = some r) :
    Calls Tryd.prog 53 #[.string a0] w fun e w' => e = .returned (.bool r) ∧ Below w.heap.size w w' := by
  unfold field_value.f at h
  split at h
  · rename_i hs
    cases h
    exact value_calls a0 w hs
  · cases h
def field_token.f (a0 : ByteArray) : Option Bool := if a0.size < 4611686018427387904 then some (F.fieldTok (L a0)) else none
theorem field_token.calls (a0 : ByteArray) (r : Bool) (w : World) (h : field_token.f a0 = some r) :
    Calls Tryd.prog 52 #[.string a0] w fun e w' => e = .returned (.bool r) ∧ Below w.heap.size w w' := by
  unfold field_token.f at h
  split at h
  · rename_i hs
    cases h
    exact ftoken_calls a0 w hs
  · cases h
def field_Parse.f (a0 : ByteArray) : Option (List S49 × ByteArray × Int) := if a0.size < 4294967281 then some (parseV (L a0)) else none
theorem field_Parse.calls (a0 : ByteArray) (r1 : List S49) (r2 : ByteArray) (r3 : Int) (w : World) (hG : Glob w) (h : field_Parse.f a0 = some (r1, r2, r3)) :
    Calls Tryd.prog 26 #[.string a0] w fun e w' => ∃ v : Value, e = .returned (.tuple #[v, .string r2, .int .i64 r3]) ∧ Kd.R k49 49 w' w.heap.size (fun _ => True) v r1 ∧ Below w.heap.size w w' := by
  unfold field_Parse.f at h
  split at h
  · rename_i hs
    have e := Option.some.inj h
    have := callsIn_wide.1 (fparse_in a0 w hG hs)
    rw [e] at this
    exact this
  · cases h
def field_Print.f (l : List S49) : Option (ByteArray × Int) := if tot l ≤ 1000000 ∧ l.length ≤ 1000000 then some (printV l) else none
theorem field_Print.calls (A0 : Option Addr) (c0 : Nat) (l0 : List S49) (r1 : ByteArray) (r2 : Int) (w : World) (hr0 : Kd.C k49 w A0 l0.length l0) (hc0 : l0.length ≤ c0) (h : field_Print.f l0 = some (r1, r2)) :
    Calls Tryd.prog 30 #[.slice A0 l0.length c0] w fun e w' => e = .returned (.tuple #[.string r1, .int .i64 r2]) ∧ Below w.heap.size w w' := by
  unfold field_Print.f at h
  split at h
  · rename_i hs
    have e := Option.some.inj h
    have := fprint_calls A0 c0 l0 w hr0 hs.1 hs.2
    rw [e] at this
    exact this
  · cases h
/-! strings.Join. -/
theorem spot_none {w : World} {a : Addr} {v : Value} (h : w.cell? a = some v) : a.spot = none ∧ a.block < w.heap.size := by
  unfold World.cell? at h
  split at h
  · rename_i c e fz hk
    split at h
    · cases h
    · rename_i hs
      refine ⟨?_, (Array.getElem?_eq_some_iff.1 hk).1⟩
      cases hq : a.spot with
      | none => rfl
      | some x => rw [hq] at hs; exact absurd rfl hs
  · cases h
def strings_Join.f (l : List ByteArray) (a1 : ByteArray) : Option ByteArray :=
  if (Lib.join (l.map (·.data.toList)) a1.data.toList).length ≤ 140737488355328 ∧ l.length ≤ 140737488355328 then some ⟨(Lib.join (l.map (·.data.toList)) a1.data.toList).toArray⟩ else none
theorem strings_Join.calls (A0 : Option Addr) (c0 : Nat) (l0 : List ByteArray) (a1 : ByteArray) (r : ByteArray) (w : World) (hr0 : Kd.C Kd.string w A0 l0.length l0) (hc0 : l0.length ≤ c0) (h : strings_Join.f l0 a1 = some r) :
    Calls Tryd.prog 58 #[.slice A0 l0.length c0, .string a1] w fun e w' => e = .returned (.string r) ∧ Below w.heap.size w w' := by
  unfold strings_Join.f at h
  split at h
  · rename_i hs
    cases h
    cases l0 with
    | nil =>
      refine (Tryd.strings_Join_none A0 c0 a1 w).mono ?_
      rintro e w' ⟨rfl, rfl⟩
      exact ⟨by simp [Lib.join, List.intercalate], Below.refl _ _⟩
    | cons x xs =>
      obtain ⟨_, _, hr⟩ := Kd.reads_of_C (d := ByteArray.empty) hr0
      obtain ⟨ad, rfl, hc⟩ := hr (by simp)
      have h0 := hc 0 (by simp)
      obtain ⟨hsp, hlt⟩ := spot_none h0
      obtain ⟨bk, o, sp⟩ := ad
      have hsp2 : sp = none := hsp
      subst hsp2
      refine Tryd.strings_Join bk o c0 (x :: xs) a1 w (fun j y hy => ?_) hlt hs.2 hc0 hs.1
      have hj : j < (x :: xs).length := (List.getElem?_eq_some_iff.1 hy).1
      have := hc j hj
      rw [List.getD_eq_getElem?_getD, hy, Option.getD_some] at this
      have e : (⟨bk, o, none⟩ : Addr).add j = ⟨bk, o + j, none⟩ := by unfold Addr.add; split <;> simp_all
      rw [e] at this
      exact this
  · cases h
end Go.Proofs.YtodhbldnmepmaaaDoor.X
