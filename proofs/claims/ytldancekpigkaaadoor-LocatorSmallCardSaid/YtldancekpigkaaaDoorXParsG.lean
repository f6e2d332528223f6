/- locator.Parse in the printer's shape, over the printed parts. -/
import Derived.Test.YtldancekpigkaaaDoorXParse
import Derived.Test.YtldancekpigkaaaDoorPl2
namespace Go.Proofs.YtldancekpigkaaaDoor.X
open Go.RowKit Go.Shelf Go.Proofs.YtldancekpigkaaaDoorW.PrintWords Go.Proofs.YtldancekpigkaaaDoorW.PrintLast Go.Proofs.YtldancekpigkaaaDoorW.PrintMore Go.Proofs.YtldancekpigkaaaDoor.Pl
set_option linter.unusedVariables false

abbrev Uri := ByteArray × ByteArray × ByteArray × ByteArray × ByteArray × Bool × Bool × Bool × Bool
abbrev UriE := ByteArray × ByteArray × ByteArray × ByteArray × ByteArray × Bool × Bool × Bool × Bool × Int
def endP (u : Uri) (e : Int) (sc b1 b2 b3 b4 : Bool) : UriE :=
  if badP e u.2.2.2.2.2.1 sc b1 b2 b3 b4 = true then (⟨#[]⟩, ⟨#[]⟩, ⟨#[]⟩, ⟨#[]⟩, ⟨#[]⟩, false, false, false, false, 120)
  else (u.1, u.2.1, u.2.2.1, u.2.2.2.1, u.2.2.2.2.1, u.2.2.2.2.2.1, u.2.2.2.2.2.2.1, u.2.2.2.2.2.2.2.1, u.2.2.2.2.2.2.2.2, 0)
def locator_Parse.f (k : Nat) (a0 : ByteArray) : Option UriE :=
  (locator_split.f k a0).bind fun u => (glyph_Check.f a0).bind fun e => (locator_scheme.f u.1).bind fun sc =>
  (locator_signs.f k u.2.1 ⟨#[91, 93]⟩).bind fun b1 => (locator_signs.f k u.2.2.1 ⟨#[47]⟩).bind fun b2 => (locator_signs.f k u.2.2.2.1 ⟨#[47, 63]⟩).bind fun b3 =>
  (locator_signs.f k u.2.2.2.2.1 ⟨#[47, 63]⟩).bind fun b4 => some (endP u e sc b1 b2 b3 b4)
theorem locator_Parse.mono (k : Nat) (a0 : ByteArray) : LeO (locator_Parse.f k a0) (locator_Parse.f (k + 1) a0) := by
  unfold locator_Parse.f
  refine LeO.bind (locator_split.mono _ _) (fun _ => LeO.bind (LeO.refl _) (fun _ => LeO.bind (LeO.refl _) (fun _ => ?_)))
  exact LeO.bind (locator_signs.mono _ _ _) (fun _ => LeO.bind (locator_signs.mono _ _ _) (fun _ => LeO.bind (locator_signs.mono _ _ _) (fun _ => LeO.bind (locator_signs.mono _ _ _) (fun _ => LeO.refl _))))
theorem locator_Parse.calls (k : Nat) (a0 : ByteArray) (r1 r2 r3 r4 r5 : ByteArray) (r6 r7 r8 r9 : Bool) (r10 : Int) (w : World) (hG : Glob w) (h : locator_Parse.f k a0 = some (r1, r2, r3, r4, r5, r6, r7, r8, r9, r10)) :
    Calls Tryd.prog 11 #[.string a0] w fun e w' => e = .returned (.tuple #[.agg #[.string r1, .string r2, .string r3, .string r4, .string r5, .bool r6, .bool r7, .bool r8, .bool r9], .int .i64 r10]) ∧ Below w.heap.size w w' := by
  unfold locator_Parse.f at h
  obtain ⟨⟨s1, s2, s3, s4, s5, s6, s7, s8, s9⟩, hs, h⟩ := Option.bind_eq_some_iff.mp h
  obtain ⟨e, he, h⟩ := Option.bind_eq_some_iff.mp h
  obtain ⟨sc, hsc, h⟩ := Option.bind_eq_some_iff.mp h
  obtain ⟨b1, h1, h⟩ := Option.bind_eq_some_iff.mp h
  obtain ⟨b2, h2, h⟩ := Option.bind_eq_some_iff.mp h
  obtain ⟨b3, h3, h⟩ := Option.bind_eq_some_iff.mp h
  obtain ⟨b4, h4, h⟩ := Option.bind_eq_some_iff.mp h
  refine (parse_walk a0 s1 s2 s3 s4 s5 s6 s7 s8 s9 sc b1 b2 b3 b4 e w hG (fun w => locator_split.calls k a0 _ _ _ _ _ _ _ _ _ w hs) (fun w hG => glyph_Check.calls a0 e w hG he) (fun w => locator_scheme.calls s1 sc w hsc)
    (fun w => locator_signs.calls k _ _ _ w h1) (fun w => locator_signs.calls k _ _ _ w h2) (fun w => locator_signs.calls k _ _ _ w h3) (fun w => locator_signs.calls k _ _ _ w h4)).mono ?_
  rintro x w' ⟨rfl, hb⟩
  refine ⟨?_, hb⟩
  have h := Option.some.inj h
  unfold endP at h
  by_cases hq : badP e s6 sc b1 b2 b3 b4 = true
  · rw [if_pos hq] at h ⊢
    simp only [Prod.mk.injEq] at h
    obtain ⟨rfl, rfl, rfl, rfl, rfl, rfl, rfl, rfl, rfl, rfl⟩ := h
    rfl
  · rw [if_neg hq] at h ⊢
    simp only [Prod.mk.injEq] at h
    obtain ⟨rfl, rfl, rfl, rfl, rfl, rfl, rfl, rfl, rfl, rfl⟩ := h
    rfl
end Go.Proofs.YtldancekpigkaaaDoor.X
