/- What the printed texts of the locators lean on beyond the kit. -/
import Derived.Test.YtldancekpigkaaaDoorXPrint
namespace Go.Proofs.YtldancekpigkaaaDoor.X
open Go.RowKit Go.Shelf Go.Proofs.YtldancekpigkaaaDoorW.PrintWords

theorem spot_none {w : World} {a : Addr} {v : Value} (h : w.cell? a = some v) : a.spot = none ∧ a.block < w.heap.size := by
  unfold World.cell? at h
  split at h
  · rename_i c e fz hk
    split at h
    · cases h
    · rename_i hs
      refine ⟨?_, (Array.getElem?_eq_some_iff.1 hk).1⟩
      cases hq : a.spot with
      | none => rfl
      | some x => rw [hq] at hs; exact absurd rfl hs
  · cases h
def strings_Join.f (l : List ByteArray) (a1 : ByteArray) : Option ByteArray :=
  if (Lib.join (l.map (·.data.toList)) a1.data.toList).length ≤ 140737488355328 ∧ l.length ≤ 140737488355328 then some ⟨(Lib.join (l.map (·.data.toList)) a1.data.toList).toArray⟩ else none
theorem strings_Join.calls (A0 : Option Addr) (c0 : Nat) (l0 : List ByteArray) (a1 : ByteArray) (r : ByteArray) (w : World) (hr0 : Kd.C Kd.string w A0 l0.length l0) (hc0 : l0.length ≤ c0) (h : strings_Join.f l0 a1 = some r) :
    Calls Tryd.prog 31 #[.slice A0 l0.length c0, .string a1] w fun e w' => e = .returned (.string r) ∧ Below w.heap.size w w' := by
  unfold strings_Join.f at h
  split at h
  · rename_i hs
    cases h
    cases l0 with
    | nil =>
      refine (Tryd.strings_Join_none A0 c0 a1 w).mono ?_
      rintro e w' ⟨rfl, rfl⟩
      exact ⟨by simp [Lib.join, List.intercalate], Below.refl _ _⟩
    | cons x xs =>
      obtain ⟨_, _, hr⟩ := Kd.reads_of_C (d := ByteArray.empty) hr0
      obtain ⟨ad, rfl, hc⟩ := hr (by simp)
      have h0 := hc 0 (by simp)
      obtain ⟨hsp, hlt⟩ := spot_none h0
      obtain ⟨bk, o, sp⟩ := ad
      have hsp2 : sp = none := hsp
      subst hsp2
      refine Tryd.strings_Join bk o c0 (x :: xs) a1 w (fun j y hy => ?_) hlt hs.2 hc0 hs.1
      have hj : j < (x :: xs).length := (List.getElem?_eq_some_iff.1 hy).1
      have := hc j hj
      rw [List.getD_eq_getElem?_getD, hy, Option.getD_some] at this
      have e : (⟨bk, o, none⟩ : Addr).add j = ⟨bk, o + j, none⟩ := by unfold Addr.add; split <;> simp_all
      rw [e] at this
      exact this
  · cases h
end Go.Proofs.YtldancekpigkaaaDoor.X
