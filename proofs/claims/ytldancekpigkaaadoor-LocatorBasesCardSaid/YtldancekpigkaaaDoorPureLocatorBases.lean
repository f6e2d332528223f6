/- LocatorBases: the walk's premises hold. -/
import Derived.Test.YtldancekpigkaaaDoorXBases
import Derived.Test.YtldancekpigkaaaDoorS6
namespace Go.Proofs.YtldancekpigkaaaDoor.Pq
open Go.RowKit Go.Proofs.YtldancekpigkaaaDoorW.PrintWords Go.Proofs.YtldancekpigkaaaDoor.Pl
theorem broadsheetlaw12_LocatorBases.calls (k : Nat) (b0 b1 b2 b3 b4 : ByteArray) (b5 b6 b7 b8 : Bool) (r0 r1 r2 r3 r4 : ByteArray) (r5 r6 r7 r8 : Bool) (r : Bool) (w : World) (hG : X.Glob w)
    (h : r = true ∧ ∃ d, broadsheetlaw12_short.f r0 r1 r2 r3 r4 r5 r6 r7 r8 = some true → locator_Dots.f k r2 = some d) :
    Calls Tryd.prog 8 #[.agg #[.string b0, .string b1, .string b2, .string b3, .string b4, .bool b5, .bool b6, .bool b7, .bool b8], .agg #[.string r0, .string r1, .string r2, .string r3, .string r4, .bool r5, .bool r6, .bool r7, .bool r8]] w fun e w' => e = .returned (.bool r) ∧ Below w.heap.size w w' := by
  obtain ⟨rfl, d, hd⟩ := h
  obtain ⟨sb, hsb⟩ : ∃ s, broadsheetlaw12_short.f b0 b1 b2 b3 b4 b5 b6 b7 b8 = some s := ⟨_, rfl⟩
  obtain ⟨sr, hsr⟩ : ∃ s, broadsheetlaw12_short.f r0 r1 r2 r3 r4 r5 r6 r7 r8 = some s := ⟨_, rfl⟩
  exact X.bases_calls b0 b1 b2 b3 b4 b5 b6 b7 b8 r0 r1 r2 r3 r4 r5 r6 r7 r8 sb sr d k hsb hsr (fun e => hd (by rw [hsr, e])) w hG
end Go.Proofs.YtldancekpigkaaaDoor.Pq
namespace Go.Proofs.YtldancekpigkaaaDoor.Pure
open Go.RowKit Go.Proofs.YtldancekpigkaaaDoorW.PrintWords Go.Proofs.YtldancekpigkaaaDoor.Pl Go.Proofs.YtldancekpigkaaaDoor.RowData Go.Proofs.YtldancekpigkaaaDoor.U Go.Proofs.YtldancekpigkaaaDoor.S
/-- What is short has a short path. -/
theorem short_path (y : U9) (hy : y.Fits) (h : broadsheetlaw12_short.f y.f0 y.f1 y.f2 y.f3 y.f4 y.f5 y.f6 y.f7 y.f8 = some true) : y.f0.size + y.f1.size + y.f2.size + y.f3.size + y.f4.size ≤ 2000 := by
  obtain ⟨h0, h1, h2, h3, h4⟩ := hy
  unfold broadsheetlaw12_short.f at h
  have h := of_decide_eq_true (Option.some.inj h)
  rw [w64 (x := (y.f0.size : Int) + (y.f1.size : Int)) (by omega) (by omega), w64 (x := (y.f0.size : Int) + (y.f1.size : Int) + (y.f2.size : Int)) (by omega) (by omega), w64 (x := (y.f0.size : Int) + (y.f1.size : Int) + (y.f2.size : Int) + (y.f3.size : Int)) (by omega) (by omega), w64 (x := (y.f0.size : Int) + (y.f1.size : Int) + (y.f2.size : Int) + (y.f3.size : Int) + (y.f4.size : Int)) (by omega) (by omega)] at h
  omega
theorem LocatorBases (x y : U9) (_ : x.Fits) (hy : y.Fits) : ∃ k : Nat, true = true ∧ ∃ d, broadsheetlaw12_short.f y.f0 y.f1 y.f2 y.f3 y.f4 y.f5 y.f6 y.f7 y.f8 = some true → locator_Dots.f k y.f2 = some d := by
  by_cases h : broadsheetlaw12_short.f y.f0 y.f1 y.f2 y.f3 y.f4 y.f5 y.f6 y.f7 y.f8 = some true
  · have hs := short_path y hy h
    obtain ⟨s, e⟩ := B_eta y.f2
    rw [e, B_size] at hs
    obtain ⟨k, hk⟩ := Ev.rounds (gdots_ev s (by omega))
    exact ⟨k, rfl, _, fun _ => by rw [e]; exact hk⟩
  · exact ⟨0, rfl, ⟨#[]⟩, fun e => absurd e h⟩
end Go.Proofs.YtldancekpigkaaaDoor.Pure
