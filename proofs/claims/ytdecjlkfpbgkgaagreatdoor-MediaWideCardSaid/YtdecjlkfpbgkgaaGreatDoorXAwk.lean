/- The law's awake, walked by hand: one road alone. -/
import Derived.Test.YtdecjlkfpbgkgaaGreatDoorXFits
namespace Go.Proofs.YtdecjlkfpbgkgaaGreatDoor.X
open Go.RowKit Go.Shelf Go.Proofs.YtdecjlkfpbgkgaaGreatDoorW.PrintWords Go.Proofs.YtdecjlkfpbgkgaaGreatDoorW.PrintLast Go.Proofs.YtdecjlkfpbgkgaaGreatDoorW.PrintMore Go.Proofs.YtdecjlkfpbgkgaaGreatDoor.F Go.Proofs.YtdecjlkfpbgkgaaGreatDoor.Pm
set_option linter.unusedVariables false
set_option linter.unusedSimpArgs false
def awkP : S38 := ⟨M [99, 104, 97, 114, 115, 101, 116], M [85, 84, 70, 45, 56]⟩
theorem awk_facts : ∃ (T1 T2 V Q : ByteArray) (P : S38), parseV (L ⟨#[84, 101, 120, 116, 47, 72, 84, 77, 76, 59, 32, 67, 104, 97, 114, 115, 101, 116, 61, 34, 85, 84, 70, 45, 56, 34]⟩) = (T1, T2, [P], 0) ∧ (T1.toList == [116, 101, 120, 116]) = true ∧ (T2.toList == [104, 116, 109, 108]) = true ∧ paramW [P] ⟨#[99, 104, 97, 114, 115, 101, 116]⟩ = (V, true) ∧ (V.toList == [85, 84, 70, 45, 56]) = true ∧ fitsV ⟨#[116, 101, 120, 116]⟩ ⟨#[42]⟩ [] T1 T2 [P] = true ∧ P.f1.size ≤ 1000 ∧ fieldTok (L P.f1) = true ∧ tot [P] + T1.size + T2.size ≤ 1000 ∧ M (headT T1 T2 ++ partsT [P]) = Q ∧ (Q.toList == [116, 101, 120, 116, 47, 104, 116, 109, 108, 59, 32, 99, 104, 97, 114, 115, 101, 116, 61, 85, 84, 70, 45, 56]) = true :=
  ⟨M [116, 101, 120, 116], M [104, 116, 109, 108], M [85, 84, 70, 45, 56], M [116, 101, 120, 116, 47, 104, 116, 109, 108, 59, 32, 99, 104, 97, 114, 115, 101, 116, 61, 85, 84, 70, 45, 56], awkP, by kernel_rfl, by rw [M_toList]; rfl, by rw [M_toList]; rfl, by kernel_rfl, by rw [M_toList]; rfl, by kernel_rfl, by decide +kernel, by kernel_rfl, by decide +kernel, by kernel_rfl, by rw [M_toList]; rfl⟩
set_option maxHeartbeats 8000000 in
set_option maxRecDepth 100000 in
theorem awake_calls (w : World) : Calls Tryz.prog 9 #[] w fun e w' => e = .returned (.bool true) ∧ Below w.heap.size w w' := by
  obtain ⟨T1, T2, V, Q, P, f1, t1, t2, f2, t3, f3, z1, f4, z2, f5, t4⟩ := awk_facts
  have hu25 := Tryz.underlying25
  have HF := Aside0.mk (And.intro f1 (And.intro f2 (And.intro f3 (And.intro f4 f5))))
  have HZ := Aside0.mk (And.intro z1 z2)
  clear f1 f2 f3 f4 f5 z1 z2
  go_enter Tryz.func9, Tryz.ntmps9
  go_wp2_with fail
  have m1 := mparse_calls ⟨#[84, 101, 120, 116, 47, 72, 84, 77, 76, 59, 32, 67, 104, 97, 114, 115, 101, 116, 61, 34, 85, 84, 70, 45, 56, 34]⟩ w (by decide)
  rw [HF.out.1] at m1
  refine m1.mono ?_
  clear m1
  rintro e w1 ⟨v1, rfl, r1, b1⟩
  obtain ⟨A, c, hv1, hc, hC⟩ := Kd.R_reads r1
  rw [show v1 = .slice A 1 c from hv1]
  have HK0 := Aside0.mk (Tri.new w1 25 (.string T1) (.string T2) (.slice A 1 c))
  have HC0 := Aside0.mk (Kd.C_below hC (show Below w1.heap.size w1 (w1.alloc (.cells #[.string T1, .string T2, .slice A 1 c] 25)) from (Below.refl _ _).alloc (Nat.le_refl _) _))
  have HB0 := Aside0.mk (b1.alloc b1.size (.cells #[.string T1, .string T2, .slice A 1 c] 25))
  have HB1 := Aside0.mk b1.size
  clear r1 hC b1 hv1 v1
  go_wp2_with fail
  generalize w1.alloc (.cells #[.string T1, .string T2, .slice A 1 c] 25) = W1 at HK0 HC0 HB0 ⊢
  have HG := Aside0.mk (show w.heap.size ≤ w1.heap.size from HB1.out)
  generalize w1.heap.size = n at HK0 HG ⊢
  have m2 := mparse_calls ⟨#[42, 47, 97]⟩ W1 (by decide)
  rw [show parseV (L ⟨#[42, 47, 97]⟩) = (⟨#[]⟩, ⟨#[]⟩, [], 130) from by kernel_rfl] at m2
  refine m2.mono ?_
  clear m2
  rintro e w2 ⟨v2, rfl, r2, b2⟩
  obtain ⟨A2, c2, hv2, _, _⟩ := Kd.R_reads r2
  rw [show v2 = .slice A2 0 c2 from hv2]
  have al : ∀ o : Obj, Below w2.heap.size w2 (w2.alloc o) := fun o => (Below.refl _ _).alloc (Nat.le_refl _) _
  have HK1 := Aside0.mk ((HK0.out.below b2).below (al (.cells #[.string ⟨#[]⟩, .string ⟨#[]⟩, .slice A2 0 c2] 25)))
  have HC1 := Aside0.mk (Kd.C_below (Kd.C_below HC0.out b2) (al (.cells #[.string ⟨#[]⟩, .string ⟨#[]⟩, .slice A2 0 c2] 25)))
  have HB2 := Aside0.mk ((HB0.out.trans (b2.mono HB0.out.size)).alloc (HB0.out.trans (b2.mono HB0.out.size)).size (.cells #[.string ⟨#[]⟩, .string ⟨#[]⟩, .slice A2 0 c2] 25))
  have d0 := HK1.out.c0
  have d1 := HK1.out.c1
  have d2 := HK1.out.c2
  clear r2 b2 hv2 v2 al HK0 HC0 HB0
  go_wp2_with fail
  have m3 := param_calls T1 T2 A c [P] ⟨#[99, 104, 97, 114, 115, 101, 116]⟩ _ HC1.out hc
  rw [HF.out.2.1] at m3
  refine m3.mono ?_
  clear m3
  rintro e w3 ⟨rfl, h3⟩
  have HK3 := Aside0.mk (HK1.out.below h3)
  have HC3 := Aside0.mk (Kd.C_below HC1.out h3)
  have HB3 := Aside0.mk (HB2.out.trans (h3.mono HB2.out.size))
  have e0 := HK3.out.c0
  have e1 := HK3.out.c1
  have e2 := HK3.out.c2
  clear h3 HK1 HC1 HB2 d0 d1 d2
  go_wp2_with fail
  refine (fits_calls ⟨#[116, 101, 120, 116]⟩ ⟨#[42]⟩ none 0 [] T1 T2 A c [P] w3 (Kd.C_nil _ _) (Nat.le_refl _) HC3.out hc (fun x hx => by cases hx) (fun x hx => by rw [List.mem_singleton.1 hx]; have := HZ.out.1; omega) true HF.out.2.2.1).mono ?_
  rintro e w4 ⟨rfl, h4⟩
  have HK4 := Aside0.mk (HK3.out.below h4)
  have HC4 := Aside0.mk (Kd.C_below HC3.out h4)
  have HB4 := Aside0.mk (HB3.out.trans (h4.mono HB3.out.size))
  have g0 := HK4.out.c0
  have g1 := HK4.out.c1
  have g2 := HK4.out.c2
  clear h4 HK3 HC3 HB3 e0 e1 e2
  go_wp2_with fail
  have m5 := mprint_calls T1 T2 A c [P] w4 HC4.out hc (by have := HZ.out.2; omega) (show 1 ≤ 1000000 by decide) (fun x hx => by rw [List.mem_singleton.1 hx]; exact HF.out.2.2.2.1)
  rw [HF.out.2.2.2.2] at m5
  refine m5.mono ?_
  clear m5
  rintro e w5 ⟨rfl, h5⟩
  have HB5 := Aside0.mk (HB4.out.trans (h5.mono HB4.out.size))
  clear h5
  go_wp2_with fail
  go_ret
  exact ⟨rfl, HB5.out⟩
end Go.Proofs.YtdecjlkfpbgkgaaGreatDoor.X
