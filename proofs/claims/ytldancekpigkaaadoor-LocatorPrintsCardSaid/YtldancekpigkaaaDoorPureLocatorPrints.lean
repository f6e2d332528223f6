/- LocatorPrints: the walk's premises hold: both texts, both paths without dots, both resolved references are the same. -/
import Derived.Test.YtldancekpigkaaaDoorXPrints
import Derived.Test.YtldancekpigkaaaDoorS10
set_option linter.unusedVariables false
namespace Go.Proofs.YtldancekpigkaaaDoor.Pq
open Go.RowKit Go.Proofs.YtldancekpigkaaaDoorW.PrintWords Go.Proofs.YtldancekpigkaaaDoor.Pl
def PrintsP (b0 b1 b2 b3 b4 : ByteArray) (b5 b6 b7 b8 : Bool) (r0 r1 r2 r3 r4 : ByteArray) (r5 r6 r7 r8 : Bool) : Prop :=
  ∃ (x0 x1 x2 x3 x4 : ByteArray) (x5 x6 x7 x8 : Bool) (p d : ByteArray) (k1 k2 k3 k4 k5 : Nat), broadsheetlaw12_short.f b0 b1 b2 b3 b4 b5 b6 b7 b8 = some true → broadsheetlaw12_short.f r0 r1 r2 r3 r4 r5 r6 r7 r8 = some true →
    X.locator_Print.f b0 b1 b2 b3 b4 b5 b6 b7 b8 = some p ∧ broadsheetref12_Print.f k5 b0 b1 b2 b3 b4 b5 b6 b7 b8 = some p ∧ locator_Dots.f k1 b2 = some d ∧ broadsheetref12_Dots.f k2 b2 = some d ∧ locator_Resolve.f k3 b0 b1 b2 b3 b4 b5 b6 b7 b8 r0 r1 r2 r3 r4 r5 r6 r7 r8 = some (x0, x1, x2, x3, x4, x5, x6, x7, x8) ∧ broadsheetref12_Resolve.f k4 b0 b1 b2 b3 b4 b5 b6 b7 b8 r0 r1 r2 r3 r4 r5 r6 r7 r8 = some (x0, x1, x2, x3, x4, x5, x6, x7, x8)
open Go.Proofs.YtldancekpigkaaaDoor.X in
theorem broadsheetlaw12_LocatorPrints.calls (k : Nat) (b0 b1 b2 b3 b4 : ByteArray) (b5 b6 b7 b8 : Bool) (r0 r1 r2 r3 r4 : ByteArray) (r5 r6 r7 r8 : Bool) (r : Bool) (w : World) (hG : X.Glob w)
    (h : r = true ∧ PrintsP b0 b1 b2 b3 b4 b5 b6 b7 b8 r0 r1 r2 r3 r4 r5 r6 r7 r8) :
    Calls Tryd.prog 4 #[.agg #[.string b0, .string b1, .string b2, .string b3, .string b4, .bool b5, .bool b6, .bool b7, .bool b8], .agg #[.string r0, .string r1, .string r2, .string r3, .string r4, .bool r5, .bool r6, .bool r7, .bool r8]] w fun e w' => e = .returned (.bool r) ∧ Below w.heap.size w w' := by
  obtain ⟨rfl, x0, x1, x2, x3, x4, x5, x6, x7, x8, p, d, k1, k2, k3, k4, k5, hd⟩ := h
  obtain ⟨sb, hsb⟩ : ∃ s, broadsheetlaw12_short.f b0 b1 b2 b3 b4 b5 b6 b7 b8 = some s := ⟨_, rfl⟩
  obtain ⟨sr, hsr⟩ : ∃ s, broadsheetlaw12_short.f r0 r1 r2 r3 r4 r5 r6 r7 r8 = some s := ⟨_, rfl⟩
  exact X.prints_calls b0 b1 b2 b3 b4 b5 b6 b7 b8 r0 r1 r2 r3 r4 r5 r6 r7 r8 x0 x1 x2 x3 x4 x5 x6 x7 x8 sb sr p d k1 k2 k3 k4 k5 hsb hsr (fun e1 e2 => hd (by rw [hsb, e1]) (by rw [hsr, e2])) w hG
end Go.Proofs.YtldancekpigkaaaDoor.Pq
namespace Go.Proofs.YtldancekpigkaaaDoor.Pure
open Go.RowKit Go.Proofs.YtldancekpigkaaaDoorW.PrintWords Go.Proofs.YtldancekpigkaaaDoor.Pl Go.Proofs.YtldancekpigkaaaDoor.RowData Go.Proofs.YtldancekpigkaaaDoor.U Go.Proofs.YtldancekpigkaaaDoor.S Go.Proofs.YtldancekpigkaaaDoor.X
theorem LocatorPrints (x y : U9) (hx : x.Fits) (hy : y.Fits) : ∃ k : Nat, true = true ∧ Pq.PrintsP x.f0 x.f1 x.f2 x.f3 x.f4 x.f5 x.f6 x.f7 x.f8 y.f0 y.f1 y.f2 y.f3 y.f4 y.f5 y.f6 y.f7 y.f8 := by
  refine ⟨0, rfl, ?_⟩
  by_cases h1 : broadsheetlaw12_short.f x.f0 x.f1 x.f2 x.f3 x.f4 x.f5 x.f6 x.f7 x.f8 = some true
  · by_cases h2 : broadsheetlaw12_short.f y.f0 y.f1 y.f2 y.f3 y.f4 y.f5 y.f6 y.f7 y.f8 = some true
    · have s1 := short_all x hx h1
      have s2 := short_all y hy h2
      obtain ⟨k1, e1⟩ := Ev.rounds (gdotsB x.f2 (by omega))
      obtain ⟨k2, e2⟩ := Ev.rounds (rdotsB x.f2 (by omega))
      obtain ⟨k3, e3⟩ := Ev.rounds (gresolve_ev x.f0 x.f1 x.f2 x.f3 x.f4 x.f5 x.f6 x.f7 x.f8 y.f0 y.f1 y.f2 y.f3 y.f4 y.f5 y.f6 y.f7 y.f8 (by omega))
      obtain ⟨k4, e4⟩ := Ev.rounds (rresolve_ev x.f0 x.f1 x.f2 x.f3 x.f4 x.f5 x.f6 x.f7 x.f8 y.f0 y.f1 y.f2 y.f3 y.f4 y.f5 y.f6 y.f7 y.f8 (by omega))
      obtain ⟨a, ea⟩ := B_eta x.f0
      obtain ⟨b, eb⟩ := B_eta x.f1
      obtain ⟨c, ec⟩ := B_eta x.f2
      obtain ⟨d, ed⟩ := B_eta x.f3
      obtain ⟨e, ee⟩ := B_eta x.f4
      have e6 := gprint2 a b c d e x.f5 x.f6 x.f7 x.f8 (by rw [ea, eb, ec, ed, ee] at s1; simp only [B_size] at s1; omega)
      obtain ⟨k5, e5⟩ := Ev.rounds (rprint_ev a b c d e x.f5 x.f6 x.f7 x.f8 (by rw [ea, eb, ec, ed, ee] at s1; simp only [B_size] at s1; omega))
      rw [← ea, ← eb, ← ec, ← ed, ← ee] at e5 e6
      exact ⟨_, _, _, _, _, _, _, _, _, _, _, k1, k2, k3, k4, k5, fun _ _ => ⟨e6, e5, e1, e2, e3, e4⟩⟩
    · exact ⟨⟨#[]⟩, ⟨#[]⟩, ⟨#[]⟩, ⟨#[]⟩, ⟨#[]⟩, false, false, false, false, ⟨#[]⟩, ⟨#[]⟩, 0, 0, 0, 0, 0, fun _ e => absurd e h2⟩
  · exact ⟨⟨#[]⟩, ⟨#[]⟩, ⟨#[]⟩, ⟨#[]⟩, ⟨#[]⟩, false, false, false, false, ⟨#[]⟩, ⟨#[]⟩, 0, 0, 0, 0, 0, fun e _ => absurd e h1⟩
end Go.Proofs.YtldancekpigkaaaDoor.Pure
