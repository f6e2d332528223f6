/- field.pair, by hand: the pair of a line. -/
import Derived.Test.YtodhbldnmepmaaaDoorXVal
namespace Go.Proofs.YtodhbldnmepmaaaDoor.X
open Go.RowKit Go.Shelf Go.Proofs.YtodhbldnmepmaaaDoorW.PrintWords
open Go.Proofs.YtodhbldnmepmaaaDoor.F (pairV cut_fst cut_snd trim_len fieldTok valB small)
set_option maxHeartbeats 2000000 in
set_option maxRecDepth 100000 in
theorem pair_calls (s : ByteArray) (w : World) (hG : Glob w) (hs : s.size < 4294967281) :
    Calls Tryd.prog 47 #[.string s] w fun e w' => e = .returned (.tuple #[.agg #[.string (M (pairV (L s)).1), .string (M (pairV (L s)).2.1)], .bool (pairV (L s)).2.2]) ∧ Below w.heap.size w w' := by
  have HG := Lib.hid hG
  clear hG
  have k0 := Two.new w 49 (.string ⟨#[]⟩) (.string ⟨#[]⟩)
  have hb0 : Below w.heap.size w (w.alloc (.cells #[.string ⟨#[]⟩, .string ⟨#[]⟩] 49)) := (Below.refl _ w).alloc (Nat.le_refl _) _
  have K := Aside0.mk k0
  have HB := Aside0.mk hb0
  clear k0 hb0
  have hcut := cut_fst (L s) [58]
  have hcut2 := cut_snd (L s) [58]
  have htr := trim_len (Lib.cut (L s) [58]).2.1 [32, 9]
  have HV := Aside0.mk (show pairV (L s) = (small (Lib.cut (L s) [58]).1, Lib.trimS (Lib.cut (L s) [58]).2.1 [32, 9], (Lib.cut (L s) [58]).2.2 && fieldTok (Lib.cut (L s) [58]).1 && valB (Lib.trimS (Lib.cut (L s) [58]).2.1 [32, 9])) from rfl)
  have hz : (L s).length = s.size := rfl
  go_enter Tryd.func47, Tryd.ntmps47
  go_wp2_with fail
  obtain ⟨m, hm⟩ := HG.out.max
  have hm0 := (HB.out.cell (p := ⟨2, 0, none⟩) (World.block_lt_of_cell? w _ hm)).trans hm
  refine (Tryd.strings_Cut s ⟨#[58]⟩ m _ hs hm0).mono ?_
  rintro e w1 ⟨rfl, nn, hw1⟩
  have h1 : Below (w.alloc (.cells #[.string ⟨#[]⟩, .string ⟨#[]⟩] 49)).heap.size (w.alloc (.cells #[.string ⟨#[]⟩, .string ⟨#[]⟩] 49)) w1 := by rw [hw1]; exact below_drewN _ nn
  clear hw1 hm hm0
  rw [show Lib.cut s.data.toList (⟨#[58]⟩ : ByteArray).data.toList = Lib.cut (L s) [58] from rfl]
  generalize (Lib.cut (L s) [58]).1 = n at *
  generalize (Lib.cut (L s) [58]).2.1 = v at *
  generalize (Lib.cut (L s) [58]).2.2 = ok at *
  have k1 := K.out.below h1
  have hb1 := HB.out.trans (h1.mono HB.out.size)
  clear K HB h1
  have K := Aside0.mk k1
  have HB := Aside0.mk hb1
  clear k1 hb1
  go_wp2_with fail
  have hv2 : (M v).size ≤ 9223372036854775807 := by show v.length ≤ _; omega
  refine (trim2_calls (M v) w1 hv2).mono ?_
  rintro e w2 ⟨rfl, h2⟩
  rw [show Lib.trimS (L (M v)) [32, 9] = Lib.trimS v [32, 9] from rfl]
  generalize Lib.trimS v [32, 9] = t at *
  have k1 := K.out.below h2
  have hb1 := HB.out.trans (h2.mono HB.out.size)
  clear K HB h2 hv2
  have K := Aside0.mk k1
  have HB := Aside0.mk hb1
  clear k1 hb1
  go_wp2_with fail
  refine (small_calls (M n) w2 (by show n.length ≤ _; omega)).mono ?_
  rintro e w3 ⟨rfl, h3⟩
  rw [show small (L (M n)) = small n from rfl]
  have k1 := K.out.below h3
  have hb1 := HB.out.trans (h3.mono HB.out.size)
  clear K HB h3
  have K := Aside0.mk k1
  have HB := Aside0.mk hb1
  clear k1 hb1
  cases ok with
  | false =>
    have c0 := K.out.c0
    have c1 := K.out.c1
    have f0 := K.out.f0
    have f1 := K.out.f1
    go_wp2
    have k6 := (K.out.set0 (.string (M (small n)))).set1 (.string (M t))
    have d0 := k6.c0
    have d1 := k6.c1
    refine bodyPost_ret (v := .tuple #[.agg #[.string (M (small n)), .string (M t)], .bool false]) ?_ rfl ⟨by rw [HV.out]; rfl, ?_⟩
    · simp [results, Tryd.f47, go_sem, d0, d1]
    · exact (HB.out.setCell (p := ⟨w.heap.size, 0, none⟩) (Nat.le_refl _) _).setCell (p := ⟨w.heap.size, 1, none⟩) (Nat.le_refl _) _
  | true =>
    go_wp2_with fail
    refine (ftoken_calls (M n) w3 (by show n.length < _; omega)).mono ?_
    rintro e w4 ⟨rfl, h4⟩
    rw [show fieldTok (L (M n)) = fieldTok n from rfl]
    generalize fieldTok n = p at *
    have k1 := K.out.below h4
    have hb1 := HB.out.trans (h4.mono HB.out.size)
    clear K HB h4
    have K := Aside0.mk k1
    have HB := Aside0.mk hb1
    clear k1 hb1
    cases p with
    | false =>
      have c0 := K.out.c0
      have c1 := K.out.c1
      have f0 := K.out.f0
      have f1 := K.out.f1
      go_wp2
      have k6 := (K.out.set0 (.string (M (small n)))).set1 (.string (M t))
      have d0 := k6.c0
      have d1 := k6.c1
      refine bodyPost_ret (v := .tuple #[.agg #[.string (M (small n)), .string (M t)], .bool false]) ?_ rfl ⟨by rw [HV.out]; rfl, ?_⟩
      · simp [results, Tryd.f47, go_sem, d0, d1]
      · exact (HB.out.setCell (p := ⟨w.heap.size, 0, none⟩) (Nat.le_refl _) _).setCell (p := ⟨w.heap.size, 1, none⟩) (Nat.le_refl _) _
    | true =>
      go_wp2_with fail
      refine (value_calls (M t) w4 (by show t.length ≤ _; omega)).mono ?_
      rintro e w5 ⟨rfl, h5⟩
      rw [show valB (L (M t)) = valB t from rfl]
      generalize valB t = q at *
      have k1 := K.out.below h5
      have hb1 := HB.out.trans (h5.mono HB.out.size)
      clear K HB h5
      have K := Aside0.mk k1
      have HB := Aside0.mk hb1
      clear k1 hb1
      have c0 := K.out.c0
      have c1 := K.out.c1
      have f0 := K.out.f0
      have f1 := K.out.f1
      go_wp2
      have k6 := (K.out.set0 (.string (M (small n)))).set1 (.string (M t))
      have d0 := k6.c0
      have d1 := k6.c1
      refine bodyPost_ret (v := .tuple #[.agg #[.string (M (small n)), .string (M t)], .bool q]) ?_ rfl ⟨by rw [HV.out]; rfl, ?_⟩
      · simp [results, Tryd.f47, go_sem, d0, d1]
      · exact (HB.out.setCell (p := ⟨w.heap.size, 0, none⟩) (Nat.le_refl _) _).setCell (p := ⟨w.heap.size, 1, none⟩) (Nat.le_refl _) _
end Go.Proofs.YtodhbldnmepmaaaDoor.X
