/- The reference's Parse in the printer's shape, over the printed parts. -/
import Derived.Test.YtldancekpigkaaaDoorXParsG
import Derived.Test.YtldancekpigkaaaDoorXSplit
import Derived.Test.YtldancekpigkaaaDoorPl7
import Derived.Test.YtldancekpigkaaaDoorPl8
namespace Go.Proofs.YtldancekpigkaaaDoor.X
open Go.RowKit Go.Shelf Go.Proofs.YtldancekpigkaaaDoorW.PrintWords Go.Proofs.YtldancekpigkaaaDoorW.PrintLast Go.Proofs.YtldancekpigkaaaDoorW.PrintMore Go.Proofs.YtldancekpigkaaaDoor.Pl
set_option linter.unusedVariables false

def broadsheetref12_Parse.f (k : Nat) (a0 : ByteArray) : Option UriE :=
  (broadsheetref12_Split.f a0).bind fun u => (broadsheetref05_Check.f k a0).bind fun e => (broadsheetref12_scheme.f k u.1).bind fun sc =>
  (broadsheetref12_signs.f k u.2.1 ⟨#[91, 93]⟩).bind fun b1 => (broadsheetref12_signs.f k u.2.2.1 ⟨#[47]⟩).bind fun b2 => (broadsheetref12_signs.f k u.2.2.2.1 ⟨#[47, 63]⟩).bind fun b3 =>
  (broadsheetref12_signs.f k u.2.2.2.2.1 ⟨#[47, 63]⟩).bind fun b4 => some (endP u e sc b1 b2 b3 b4)
theorem broadsheetref12_Parse.mono (k : Nat) (a0 : ByteArray) : LeO (broadsheetref12_Parse.f k a0) (broadsheetref12_Parse.f (k + 1) a0) := by
  unfold broadsheetref12_Parse.f
  refine LeO.bind (LeO.refl _) (fun _ => LeO.bind (broadsheetref05_Check.mono _ _) (fun _ => LeO.bind (broadsheetref12_scheme.mono _ _) (fun _ => ?_)))
  exact LeO.bind (broadsheetref12_signs.mono _ _ _) (fun _ => LeO.bind (broadsheetref12_signs.mono _ _ _) (fun _ => LeO.bind (broadsheetref12_signs.mono _ _ _) (fun _ => LeO.bind (broadsheetref12_signs.mono _ _ _) (fun _ => LeO.refl _))))
theorem broadsheetref12_Parse.calls (k : Nat) (a0 : ByteArray) (r1 r2 r3 r4 r5 : ByteArray) (r6 r7 r8 r9 : Bool) (r10 : Int) (w : World) (h : broadsheetref12_Parse.f k a0 = some (r1, r2, r3, r4, r5, r6, r7, r8, r9, r10)) :
    Calls Tryd.prog 12 #[.string a0] w fun e w' => e = .returned (.tuple #[.agg #[.string r1, .string r2, .string r3, .string r4, .string r5, .bool r6, .bool r7, .bool r8, .bool r9], .int .i64 r10]) ∧ Below w.heap.size w w' := by
  unfold broadsheetref12_Parse.f at h
  obtain ⟨⟨s1, s2, s3, s4, s5, s6, s7, s8, s9⟩, hs, h⟩ := Option.bind_eq_some_iff.mp h
  obtain ⟨e, he, h⟩ := Option.bind_eq_some_iff.mp h
  obtain ⟨sc, hsc, h⟩ := Option.bind_eq_some_iff.mp h
  obtain ⟨b1, h1, h⟩ := Option.bind_eq_some_iff.mp h
  obtain ⟨b2, h2, h⟩ := Option.bind_eq_some_iff.mp h
  obtain ⟨b3, h3, h⟩ := Option.bind_eq_some_iff.mp h
  obtain ⟨b4, h4, h⟩ := Option.bind_eq_some_iff.mp h
  have dr : ∀ {f : FuncId} {vs : Array Value} {w : World} {b : Bool}, Calls Tryd.prog f vs w (fun e w' => e = .returned (.bool b) ∧ Drawn0 w w') → Calls Tryd.prog f vs w (fun e w' => e = .returned (.bool b) ∧ Below w.heap.size w w') :=
    fun hc => hc.mono fun e w' hh => ⟨hh.1, hh.2.below⟩
  refine (rparse_walk a0 s1 s2 s3 s4 s5 s6 s7 s8 s9 sc b1 b2 b3 b4 e w (fun w => broadsheetref12_Split.calls a0 _ _ _ _ _ _ _ _ _ w hs) (fun w => broadsheetref05_Check.calls k a0 e w he) (fun w => dr (broadsheetref12_scheme.calls k s1 sc w hsc))
    (fun w => dr (broadsheetref12_signs.calls k _ _ _ w h1)) (fun w => dr (broadsheetref12_signs.calls k _ _ _ w h2)) (fun w => dr (broadsheetref12_signs.calls k _ _ _ w h3)) (fun w => dr (broadsheetref12_signs.calls k _ _ _ w h4))).mono ?_
  rintro x w' ⟨rfl, hb⟩
  refine ⟨?_, hb⟩
  have h := Option.some.inj h
  unfold endP at h
  by_cases hq : badP e s6 sc b1 b2 b3 b4 = true
  · rw [if_pos hq] at h ⊢
    simp only [Prod.mk.injEq] at h
    obtain ⟨rfl, rfl, rfl, rfl, rfl, rfl, rfl, rfl, rfl, rfl⟩ := h
    rfl
  · rw [if_neg hq] at h ⊢
    simp only [Prod.mk.injEq] at h
    obtain ⟨rfl, rfl, rfl, rfl, rfl, rfl, rfl, rfl, rfl, rfl⟩ := h
    rfl
end Go.Proofs.YtldancekpigkaaaDoor.X
