/- A row of pairs of texts that a call is handed, read as a list. -/
import Derived.Test.YtidjihhklmfaiaaDoorPx0
import Derived.Deep.SlicePairs
import Derived.ChangeArms
namespace Go.Proofs.YtidjihhklmfaiaaDoor.RowPairs
open Go.RowKit Go.Deep Go.Proofs.YtidjihhklmfaiaaDoorW.PrintWords Go.Proofs.YtidjihhklmfaiaaDoor.Px

theorem read {H : Type} {enc : TypeId × Value → H} {W : World} {fuel : Nat} {a : Option Addr} {len cap : Nat} {x : DataW H × List MemPlace} (h : DataW.trod enc Tryd.prog W 0 (fun _ => true) true fuel 22 [.slice a len cap] = some x) :
    len ≤ cap ∧ ∃ l : List S30, l.length = len ∧ Kd.C k30 W a l.length l := by
  rcases open_slice_pairs Tryd.underlying22 Tryd.underlying30 (by kernel_rfl) rfl rfl (by kernel_rfl) (by kernel_rfl) h with ⟨hcs, _⟩ | ⟨ad, len', cap', m, n, V0, V1, D0, D1, P0, P1, hcs, _, hl, hm, hmm, _, hx⟩
  · simp at hcs
    obtain ⟨rfl, rfl, rfl⟩ := hcs
    exact ⟨Nat.le_refl _, [], rfl, rfl, by simp, fun h => absurd h (by simp)⟩
  · simp at hcs
    obtain ⟨rfl, rfl, rfl⟩ := hcs
    have hlm : len ≤ m := by rw [hmm]; split <;> omega
    have each : ∀ i, i < len → ∃ s : S30, W.cell? (ad.add (i * 2)) = some (.string s.f0) ∧ W.cell? (ad.add (i * 2 + 1)) = some (.string s.f1) := by
      intro i hi
      obtain ⟨c0, c1, t0, t1⟩ := hx i (by omega)
      obtain ⟨s0, e0, _, _⟩ := DataW.trod_string Tryd.underlying9 t0
      obtain ⟨s1, e1, _, _⟩ := DataW.trod_string Tryd.underlying9 t1
      simp only [List.cons.injEq, and_true] at e0 e1
      rw [e0] at c0
      rw [e1] at c1
      exact ⟨⟨s0, s1⟩, c0, c1⟩
    obtain ⟨g, hg⟩ := @choose_lt S30 ⟨z30⟩ _ _ each
    refine ⟨hl, (List.range len).map g, by simp, by simp, ?_, fun _ => ⟨ad, rfl, ?_⟩⟩
    · have : maxLen ≤ 9223372036854775807 := by decide
      simp only [List.length_map, List.length_range]
      omega
    · intro j p hp
      obtain ⟨hj, rfl⟩ : j < len ∧ g j = p := by
        rw [List.getElem?_map] at hp
        by_cases hj : j < len
        · rw [List.getElem?_range hj] at hp
          exact ⟨hj, Option.some.inj hp⟩
        · rw [List.getElem?_eq_none (by simp; omega)] at hp
          cases hp
      refine ⟨[.string (g j).f0, .string (g j).f1], rfl, k30_mk W (g j), ?_⟩
      intro i u hu
      match i, hu with
      | 0, hu => cases hu; exact (hg j hj).1
      | 1, hu => cases hu; exact (hg j hj).2
      | i + 2, hu => simp at hu
end Go.Proofs.YtidjihhklmfaiaaDoor.RowPairs
