/- The law LocatorTexts, walked by hand. -/
import Derived.Test.YtldancekpigkaaaDoorXAwake
import Derived.Test.YtldancekpigkaaaDoorXRefF
import Derived.Test.YtldancekpigkaaaDoorXSplit
import Derived.Test.YtldancekpigkaaaDoorPl9
import Derived.BigQuiet
import Derived.Deep.QuietTactic
namespace Go.Proofs.YtldancekpigkaaaDoor.X
open Go.RowKit Go.Shelf Go.Proofs.YtldancekpigkaaaDoorW.PrintWords Go.Proofs.YtldancekpigkaaaDoorW.PrintLast Go.Proofs.YtldancekpigkaaaDoorW.PrintMore Go.Proofs.YtldancekpigkaaaDoor.Pl
set_option linter.unusedVariables false
set_option linter.unusedSimpArgs false
attribute [local go_sem high] eqU
def textsT4 : Bool × List (List Nat × List Nat) := (true, [([], []), ([0, 0], [0]), ([1], [1]), ([2, 1, 1], [1, 2]), ([1], [1]), ([3, 4, 1], [1, 3, 4]), ([1, 5], [1, 5]), ([6, 3], [6]), ([7], [7]), ([7], [7]), ([8, 9, 7, 7], [7, 8, 9]), ([7], [7]), ([7], [7]), ([11, 12, 10, 7], [7, 11, 12]), ([10, 13, 7], [7, 10, 13]), ([7, 14], [7, 14]), ([15, 13], [15]), ([16], [16]), ([17, 16, 16], [16, 17]), ([16], [16]), ([19, 18, 16], [16, 19]), ([18, 20, 16], [16, 18, 20]), ([16, 21], [16, 21]), ([22, 20, 0, 1, 2, 3, 4, 5, 6, 7, 8, 9, 10, 11, 12, 13, 14, 15, 16, 17, 18, 19, 20, 21, 22], [22])])
def textsB4 : List Nat := [0, 1, 3, 7, 3, 31, 63, 127, 255, 255, 1023, 255, 255, 8191, 16383, 32767, 65535, 131071, 262143, 131071, 1048575, 2097151, 4194303, 8388607]
theorem texts_tab4 : rtab .any (opsOf Tryd.f5 4) = textsT4 := by kernel_rfl
theorem texts_bits4 : waitsOk textsT4.2 textsB4 = true := by kernel_rfl
set_option maxHeartbeats 4000000 in
set_option maxRecDepth 100000 in
theorem texts_calls (s t : ByteArray) (b0 b1 b2 b3 b4 : ByteArray) (b5 b6 b7 b8 : Bool) (r0 r1 r2 r3 r4 : ByteArray) (r5 r6 r7 r8 : Bool) (x0 x1 x2 x3 x4 : ByteArray) (x5 x6 x7 x8 : Bool) (d : ByteArray) (k1 k2 k3 k4 : Nat)
    (hh : s.size ≤ 1000 → t.size ≤ 1000 → broadsheetref12_Split.f s = some (b0, b1, b2, b3, b4, b5, b6, b7, b8) ∧ broadsheetref12_Split.f t = some (r0, r1, r2, r3, r4, r5, r6, r7, r8) ∧ locator_Print.f b0 b1 b2 b3 b4 b5 b6 b7 b8 = some s ∧ locator_Dots.f k1 s = some d ∧ broadsheetref12_Dots.f k2 s = some d ∧ locator_Resolve.f k3 b0 b1 b2 b3 b4 b5 b6 b7 b8 r0 r1 r2 r3 r4 r5 r6 r7 r8 = some (x0, x1, x2, x3, x4, x5, x6, x7, x8) ∧ broadsheetref12_Resolve.f k4 b0 b1 b2 b3 b4 b5 b6 b7 b8 r0 r1 r2 r3 r4 r5 r6 r7 r8 = some (x0, x1, x2, x3, x4, x5, x6, x7, x8)) (w : World) (hG : Glob w) :
    Calls Tryd.prog 5 #[.string s, .string t] w fun e w' => e = .returned (.bool true) ∧ Below w.heap.size w w' := by
  have HG := Lib.hid hG
  clear hG
  have HH := Lib.hid hh
  clear hh
  have hu24 := Tryd.underlying24
  by_cases hs : 1000 < s.size
  · have f0 : decide ((1000 : Int) < (s.size : Int)) = true := decide_eq_true (by omega)
    have f1 : decide (1000 < s.size) = true := decide_eq_true hs
    clear hs
    go_enter Tryd.func5, Tryd.ntmps5
    go_wp2_with fail
    refine (awake_calls w HG.out).mono ?_
    rintro x w1 ⟨rfl, h1⟩
    go_wp2
    go_ret
    exact ⟨rfl, h1⟩
  · have f0 : decide ((1000 : Int) < (s.size : Int)) = false := decide_eq_false (by omega)
    have f1 : decide (1000 < s.size) = false := decide_eq_false hs
    by_cases ht : 1000 < t.size
    · have g0 : decide ((1000 : Int) < (t.size : Int)) = true := decide_eq_true (by omega)
      have g1 : decide (1000 < t.size) = true := decide_eq_true ht
      clear hs ht
      go_enter Tryd.func5, Tryd.ntmps5
      go_wp2_with fail
      refine (awake_calls w HG.out).mono ?_
      rintro x w1 ⟨rfl, h1⟩
      go_wp2
      go_ret
      exact ⟨rfl, h1⟩
    have g0 : decide ((1000 : Int) < (t.size : Int)) = false := decide_eq_false (by omega)
    have g1 : decide (1000 < t.size) = false := decide_eq_false ht
    obtain ⟨hs1, hs2, hp1, hd1, hd2, hr1, hr2⟩ := HH.out (by omega) (by omega)
    clear HH hs ht
    go_enter Tryd.func5, Tryd.ntmps5
    go_wp2_with fail
    with_reducible refine (broadsheetref12_Split.calls s _ _ _ _ _ _ _ _ _ w hs1).mono ?_
    rintro x w1 ⟨rfl, h1⟩
    go_wp2_with fail
    with_reducible refine (broadsheetref12_Split.calls t _ _ _ _ _ _ _ _ _ w1 hs2).mono ?_
    rintro x w2 ⟨rfl, h2⟩
    have hb2 : Below w.heap.size w w2 := h1.trans (h2.mono h1.size)
    clear h1 h2
    clear f0 f1 g0 g1
    go_wp2_with fail
    have kb : ((w2.alloc (.cells (uriC b0 b1 b2 b3 b4 b5 b6 b7 b8) 24)).alloc (.cells (uriC r0 r1 r2 r3 r4 r5 r6 r7 r8) 24)).heap[w2.heap.size]? = some (.cells (uriC b0 b1 b2 b3 b4 b5 b6 b7 b8) 24 (0, 0)) := blk_alloc (blk_new w2 _) _
    have kr : ((w2.alloc (.cells (uriC b0 b1 b2 b3 b4 b5 b6 b7 b8) 24)).alloc (.cells (uriC r0 r1 r2 r3 r4 r5 r6 r7 r8) 24)).heap[w2.heap.size + 1]? = some (.cells (uriC r0 r1 r2 r3 r4 r5 r6 r7 r8) 24 (0, 0)) := by
      have := blk_new (w2.alloc (.cells (uriC b0 b1 b2 b3 b4 b5 b6 b7 b8) 24)) (.cells (uriC r0 r1 r2 r3 r4 r5 r6 r7 r8) 24)
      rwa [World.size_alloc] at this
    have hb : Below w.heap.size w ((w2.alloc (.cells (uriC b0 b1 b2 b3 b4 b5 b6 b7 b8) 24)).alloc (.cells (uriC r0 r1 r2 r3 r4 r5 r6 r7 r8) 24)) := (hb2.alloc hb2.size _).alloc (by rw [World.size_alloc]; have := hb2.size; omega) _
    clear hb2
    refine start_ (n := 24) (S := fun w' => w'.cell? ⟨w2.heap.size, 0, none⟩ = some (.string b0) ∧ w'.cell? ⟨w2.heap.size, 1, none⟩ = some (.string b1) ∧ w'.cell? ⟨w2.heap.size, 2, none⟩ = some (.string b2) ∧ w'.cell? ⟨w2.heap.size, 3, none⟩ = some (.string b3) ∧ w'.cell? ⟨w2.heap.size, 4, none⟩ = some (.string b4) ∧ w'.cell? ⟨w2.heap.size, 5, none⟩ = some (.bool b5) ∧ w'.cell? ⟨w2.heap.size, 6, none⟩ = some (.bool b6) ∧ w'.cell? ⟨w2.heap.size, 7, none⟩ = some (.bool b7) ∧ w'.cell? ⟨w2.heap.size, 8, none⟩ = some (.bool b8) ∧ w'.cell? ⟨w2.heap.size + 1, 0, none⟩ = some (.string r0) ∧ w'.cell? ⟨w2.heap.size + 1, 1, none⟩ = some (.string r1) ∧ w'.cell? ⟨w2.heap.size + 1, 2, none⟩ = some (.string r2) ∧ w'.cell? ⟨w2.heap.size + 1, 3, none⟩ = some (.string r3) ∧ w'.cell? ⟨w2.heap.size + 1, 4, none⟩ = some (.string r4) ∧ w'.cell? ⟨w2.heap.size + 1, 5, none⟩ = some (.bool r5) ∧ w'.cell? ⟨w2.heap.size + 1, 6, none⟩ = some (.bool r6) ∧ w'.cell? ⟨w2.heap.size + 1, 7, none⟩ = some (.bool r7) ∧ w'.cell? ⟨w2.heap.size + 1, 8, none⟩ = some (.bool r8)) (ds := []) #[false, false, false, false, false, false, false, false, false, false, false, false, false, false, false, false, false, false, false, false, false, false, false, false] (by kernel_rfl) rfl rfl ⟨(blk_cell kb 0).trans rfl, (blk_cell kb 1).trans rfl, (blk_cell kb 2).trans rfl, (blk_cell kb 3).trans rfl, (blk_cell kb 4).trans rfl, (blk_cell kb 5).trans rfl, (blk_cell kb 6).trans rfl, (blk_cell kb 7).trans rfl, (blk_cell kb 8).trans rfl, (blk_cell kr 0).trans rfl, (blk_cell kr 1).trans rfl, (blk_cell kr 2).trans rfl, (blk_cell kr 3).trans rfl, (blk_cell kr 4).trans rfl, (blk_cell kr 5).trans rfl, (blk_cell kr 6).trans rfl, (blk_cell kr 7).trans rfl, (blk_cell kr 8).trans rfl⟩ (fun hHeld => ?_)
    refine with_tabW texts_tab4 texts_bits4 (fun HT_ HW_ => ?_)
    replace kb := blk_drew kb
    replace kr := blk_drew kr
    replace hb := below_drew1 hb
    generalize World.drew _ = v0 at kb kr hb hHeld ⊢
    refine one_ (i := 0) (N := some 20) #[true, false, false, false, false, false, false, false, false, false, false, false, false, false, false, false, false, false, false, false, false, false, false, false] rfl rfl (one_of HT_.out (by kernel_rfl)) (by decide) (fun K hK => ?_)
    refine goes_ Tryd.func10 (by kernel_rfl) rfl #[] (by rfl) rfl rfl (by (try simp only [List.map_toArray, List.map_cons, List.map_nil]); first | done | rfl) ?_
    with_reducible refine (awake_calls _ (HG.out.below hb)).mono ?_
    rintro x v1 ⟨rfl, h⟩
    have kb := blk_below kb h
    have kr := blk_below kr h
    have hb := below_step hb h
    clear h
    refine ⟨_, rfl, ?_⟩
    refine hK.out _ _ ⟨(blk_cell kb 0).trans rfl, (blk_cell kb 1).trans rfl, (blk_cell kb 2).trans rfl, (blk_cell kb 3).trans rfl, (blk_cell kb 4).trans rfl, (blk_cell kb 5).trans rfl, (blk_cell kb 6).trans rfl, (blk_cell kb 7).trans rfl, (blk_cell kb 8).trans rfl, (blk_cell kr 0).trans rfl, (blk_cell kr 1).trans rfl, (blk_cell kr 2).trans rfl, (blk_cell kr 3).trans rfl, (blk_cell kr 4).trans rfl, (blk_cell kr 5).trans rfl, (blk_cell kr 6).trans rfl, (blk_cell kr 7).trans rfl, (blk_cell kr 8).trans rfl⟩ (fun hHeld => ?_)
    clear hK K
    simp only [Act.put, List.setIfInBounds_toArray, List.set_cons_zero, List.set_cons_succ]
    refine pure_ (i := 1) (N := some 21) (v := .bool true) #[true, true, false, false, false, false, false, false, false, false, false, false, false, false, false, false, false, false, false, false, false, false, false, false] rfl rfl (any_of HT_.out (by kernel_rfl)) (fun _ _ _ h => h) (Or.inl ⟨by rfl, fun w' => by go_simp⟩) rfl ?_
    simp only [Act.put, List.setIfInBounds_toArray, List.set_cons_zero, List.set_cons_succ]
    refine take_ (i := 2) (N := some 22) (v := .agg (uriC b0 b1 b2 b3 b4 b5 b6 b7 b8)) #[true, true, true, false, false, false, false, false, false, false, false, false, false, false, false, false, false, false, false, false, false, false, false, false] rfl rfl (take_ofW HT_.out HW_.out (by kernel_rfl)) (fun _ _ _ h => h) (Or.inl ⟨by rfl, fun w' hS => by obtain ⟨s0, s1, s2, s3, s4, s5, s6, s7, s8, s9, s10, s11, s12, s13, s14, s15, s16, s17⟩ := hS; go_simp⟩) hHeld rfl ?_
    refine pure_ (i := 4) (N := some 24) (v := .string s) #[true, true, true, false, true, false, false, false, false, false, false, false, false, false, false, false, false, false, false, false, false, false, false, false] rfl rfl (any_of HT_.out (by kernel_rfl)) (fun _ _ _ h => h) (Or.inl ⟨by rfl, fun w' => by go_simp⟩) rfl ?_
    simp only [Act.put, List.setIfInBounds_toArray, List.set_cons_zero, List.set_cons_succ]
    refine one_ (i := 3) (N := some 23) #[true, true, true, true, true, false, false, false, false, false, false, false, false, false, false, false, false, false, false, false, false, false, false, false] rfl rfl (one_of HT_.out (by kernel_rfl)) (by decide) (fun K hK => ?_)
    refine goes_ Tryd.func14 (by kernel_rfl) rfl #[.agg (uriC b0 b1 b2 b3 b4 b5 b6 b7 b8)] (by rfl) rfl rfl (by (try simp only [List.map_toArray, List.map_cons, List.map_nil]); first | done | rfl) ?_
    with_reducible refine (locator_Print.calls b0 b1 b2 b3 b4 b5 b6 b7 b8 _ _ hp1).mono ?_
    rintro x v2 ⟨rfl, h⟩
    have kb := blk_below kb h
    have kr := blk_below kr h
    have hb := below_step hb h
    clear h
    refine ⟨_, rfl, ?_⟩
    refine hK.out _ _ ⟨(blk_cell kb 0).trans rfl, (blk_cell kb 1).trans rfl, (blk_cell kb 2).trans rfl, (blk_cell kb 3).trans rfl, (blk_cell kb 4).trans rfl, (blk_cell kb 5).trans rfl, (blk_cell kb 6).trans rfl, (blk_cell kb 7).trans rfl, (blk_cell kb 8).trans rfl, (blk_cell kr 0).trans rfl, (blk_cell kr 1).trans rfl, (blk_cell kr 2).trans rfl, (blk_cell kr 3).trans rfl, (blk_cell kr 4).trans rfl, (blk_cell kr 5).trans rfl, (blk_cell kr 6).trans rfl, (blk_cell kr 7).trans rfl, (blk_cell kr 8).trans rfl⟩ (fun hHeld => ?_)
    clear hK K
    simp only [Act.put, List.setIfInBounds_toArray, List.set_cons_zero, List.set_cons_succ]
    refine pure_ (i := 5) (N := some 25) (v := .bool true) #[true, true, true, true, true, true, false, false, false, false, false, false, false, false, false, false, false, false, false, false, false, false, false, false] rfl rfl (any_of HT_.out (by kernel_rfl)) (fun _ _ _ h => h) (Or.inl ⟨by rfl, fun w' => by go_simp⟩) rfl ?_
    simp only [Act.put, List.setIfInBounds_toArray, List.set_cons_zero, List.set_cons_succ]
    refine pure_ (i := 6) (N := some 26) (v := .bool true) #[true, true, true, true, true, true, true, false, false, false, false, false, false, false, false, false, false, false, false, false, false, false, false, false] rfl rfl (any_of HT_.out (by kernel_rfl)) (fun _ _ _ h => h) (Or.inl ⟨by rfl, fun w' => by go_simp⟩) rfl ?_
    simp only [Act.put, List.setIfInBounds_toArray, List.set_cons_zero, List.set_cons_succ]
    refine pure_ (i := 7) (N := some 27) (v := .bool true) #[true, true, true, true, true, true, true, true, false, false, false, false, false, false, false, false, false, false, false, false, false, false, false, false] rfl rfl (any_of HT_.out (by kernel_rfl)) (fun _ _ _ h => h) (Or.inl ⟨by rfl, fun w' => by go_simp⟩) rfl ?_
    simp only [Act.put, List.setIfInBounds_toArray, List.set_cons_zero, List.set_cons_succ]
    refine take_ (i := 8) (N := some 28) (v := .agg (uriC b0 b1 b2 b3 b4 b5 b6 b7 b8)) #[true, true, true, true, true, true, true, true, true, false, false, false, false, false, false, false, false, false, false, false, false, false, false, false] rfl rfl (take_ofW HT_.out HW_.out (by kernel_rfl)) (fun _ _ _ h => h) (Or.inl ⟨by rfl, fun w' hS => by obtain ⟨s0, s1, s2, s3, s4, s5, s6, s7, s8, s9, s10, s11, s12, s13, s14, s15, s16, s17⟩ := hS; go_simp⟩) hHeld rfl ?_
    refine take_ (i := 9) (N := some 29) (v := .agg (uriC r0 r1 r2 r3 r4 r5 r6 r7 r8)) #[true, true, true, true, true, true, true, true, true, true, false, false, false, false, false, false, false, false, false, false, false, false, false, false] rfl rfl (take_ofW HT_.out HW_.out (by kernel_rfl)) (fun _ _ _ h => h) (Or.inl ⟨by rfl, fun w' hS => by obtain ⟨s0, s1, s2, s3, s4, s5, s6, s7, s8, s9, s10, s11, s12, s13, s14, s15, s16, s17⟩ := hS; go_simp⟩) hHeld rfl ?_
    refine take_ (i := 11) (N := some 31) (v := .agg (uriC b0 b1 b2 b3 b4 b5 b6 b7 b8)) #[true, true, true, true, true, true, true, true, true, true, false, true, false, false, false, false, false, false, false, false, false, false, false, false] rfl rfl (take_ofW HT_.out HW_.out (by kernel_rfl)) (fun _ _ _ h => h) (Or.inl ⟨by rfl, fun w' hS => by obtain ⟨s0, s1, s2, s3, s4, s5, s6, s7, s8, s9, s10, s11, s12, s13, s14, s15, s16, s17⟩ := hS; go_simp⟩) hHeld rfl ?_
    refine take_ (i := 12) (N := some 32) (v := .agg (uriC r0 r1 r2 r3 r4 r5 r6 r7 r8)) #[true, true, true, true, true, true, true, true, true, true, false, true, true, false, false, false, false, false, false, false, false, false, false, false] rfl rfl (take_ofW HT_.out HW_.out (by kernel_rfl)) (fun _ _ _ h => h) (Or.inl ⟨by rfl, fun w' hS => by obtain ⟨s0, s1, s2, s3, s4, s5, s6, s7, s8, s9, s10, s11, s12, s13, s14, s15, s16, s17⟩ := hS; go_simp⟩) hHeld rfl ?_
    simp only [Act.put, List.setIfInBounds_toArray, List.set_cons_zero, List.set_cons_succ]
    refine one_ (i := 10) (N := some 30) #[true, true, true, true, true, true, true, true, true, true, true, true, true, false, false, false, false, false, false, false, false, false, false, false] rfl rfl (one_of HT_.out (by kernel_rfl)) (by decide) (fun K hK => ?_)
    refine goes_ Tryd.func18 (by kernel_rfl) rfl #[.agg (uriC b0 b1 b2 b3 b4 b5 b6 b7 b8), .agg (uriC r0 r1 r2 r3 r4 r5 r6 r7 r8)] (by rfl) rfl rfl (by (try simp only [List.map_toArray, List.map_cons, List.map_nil]); first | done | rfl) ?_
    with_reducible refine (locator_Resolve.calls _ b0 b1 b2 b3 b4 b5 b6 b7 b8 r0 r1 r2 r3 r4 r5 r6 r7 r8 x0 x1 x2 x3 x4 x5 x6 x7 x8 _ hr1).mono ?_
    rintro x v3 ⟨rfl, h⟩
    have kb := blk_below kb h
    have kr := blk_below kr h
    have hb := below_step hb h
    clear h
    refine ⟨_, rfl, ?_⟩
    refine hK.out _ _ ⟨(blk_cell kb 0).trans rfl, (blk_cell kb 1).trans rfl, (blk_cell kb 2).trans rfl, (blk_cell kb 3).trans rfl, (blk_cell kb 4).trans rfl, (blk_cell kb 5).trans rfl, (blk_cell kb 6).trans rfl, (blk_cell kb 7).trans rfl, (blk_cell kb 8).trans rfl, (blk_cell kr 0).trans rfl, (blk_cell kr 1).trans rfl, (blk_cell kr 2).trans rfl, (blk_cell kr 3).trans rfl, (blk_cell kr 4).trans rfl, (blk_cell kr 5).trans rfl, (blk_cell kr 6).trans rfl, (blk_cell kr 7).trans rfl, (blk_cell kr 8).trans rfl⟩ (fun hHeld => ?_)
    clear hK K
    simp only [Act.put, List.setIfInBounds_toArray, List.set_cons_zero, List.set_cons_succ]
    refine one_ (i := 13) (N := some 33) #[true, true, true, true, true, true, true, true, true, true, true, true, true, true, false, false, false, false, false, false, false, false, false, false] rfl rfl (one_of HT_.out (by kernel_rfl)) (by decide) (fun K hK => ?_)
    refine goes_ Tryd.func19 (by kernel_rfl) rfl #[.agg (uriC b0 b1 b2 b3 b4 b5 b6 b7 b8), .agg (uriC r0 r1 r2 r3 r4 r5 r6 r7 r8)] (by rfl) rfl rfl (by (try simp only [List.map_toArray, List.map_cons, List.map_nil]); first | done | rfl) ?_
    with_reducible refine (broadsheetref12_Resolve.calls _ b0 b1 b2 b3 b4 b5 b6 b7 b8 r0 r1 r2 r3 r4 r5 r6 r7 r8 x0 x1 x2 x3 x4 x5 x6 x7 x8 _ hr2).mono ?_
    rintro x v4 ⟨rfl, h⟩
    have kb := blk_below kb h
    have kr := blk_below kr h
    have hb := below_step hb h
    clear h
    refine ⟨_, rfl, ?_⟩
    refine hK.out _ _ ⟨(blk_cell kb 0).trans rfl, (blk_cell kb 1).trans rfl, (blk_cell kb 2).trans rfl, (blk_cell kb 3).trans rfl, (blk_cell kb 4).trans rfl, (blk_cell kb 5).trans rfl, (blk_cell kb 6).trans rfl, (blk_cell kb 7).trans rfl, (blk_cell kb 8).trans rfl, (blk_cell kr 0).trans rfl, (blk_cell kr 1).trans rfl, (blk_cell kr 2).trans rfl, (blk_cell kr 3).trans rfl, (blk_cell kr 4).trans rfl, (blk_cell kr 5).trans rfl, (blk_cell kr 6).trans rfl, (blk_cell kr 7).trans rfl, (blk_cell kr 8).trans rfl⟩ (fun hHeld => ?_)
    clear hK K
    simp only [Act.put, List.setIfInBounds_toArray, List.set_cons_zero, List.set_cons_succ]
    refine pure_ (i := 14) (N := some 34) (v := .bool true) #[true, true, true, true, true, true, true, true, true, true, true, true, true, true, true, false, false, false, false, false, false, false, false, false] rfl rfl (any_of HT_.out (by kernel_rfl)) (fun _ _ _ h => h) (Or.inl ⟨by rfl, fun w' => by go_simp⟩) rfl ?_
    simp only [Act.put, List.setIfInBounds_toArray, List.set_cons_zero, List.set_cons_succ]
    refine pure_ (i := 15) (N := some 35) (v := .bool true) #[true, true, true, true, true, true, true, true, true, true, true, true, true, true, true, true, false, false, false, false, false, false, false, false] rfl rfl (any_of HT_.out (by kernel_rfl)) (fun _ _ _ h => h) (Or.inl ⟨by rfl, fun w' => by go_simp⟩) rfl ?_
    simp only [Act.put, List.setIfInBounds_toArray, List.set_cons_zero, List.set_cons_succ]
    refine pure_ (i := 16) (N := some 36) (v := .bool true) #[true, true, true, true, true, true, true, true, true, true, true, true, true, true, true, true, true, false, false, false, false, false, false, false] rfl rfl (any_of HT_.out (by kernel_rfl)) (fun _ _ _ h => h) (Or.inl ⟨by rfl, fun w' => by go_simp⟩) rfl ?_
    simp only [Act.put, List.setIfInBounds_toArray, List.set_cons_zero, List.set_cons_succ]
    refine pure_ (i := 17) (N := some 37) (v := .string s) #[true, true, true, true, true, true, true, true, true, true, true, true, true, true, true, true, true, true, false, false, false, false, false, false] rfl rfl (any_of HT_.out (by kernel_rfl)) (fun _ _ _ h => h) (Or.inl ⟨by rfl, fun w' => by go_simp⟩) rfl ?_
    refine pure_ (i := 19) (N := some 39) (v := .string s) #[true, true, true, true, true, true, true, true, true, true, true, true, true, true, true, true, true, true, false, true, false, false, false, false] rfl rfl (any_of HT_.out (by kernel_rfl)) (fun _ _ _ h => h) (Or.inl ⟨by rfl, fun w' => by go_simp⟩) rfl ?_
    simp only [Act.put, List.setIfInBounds_toArray, List.set_cons_zero, List.set_cons_succ]
    refine one_ (i := 18) (N := some 38) #[true, true, true, true, true, true, true, true, true, true, true, true, true, true, true, true, true, true, true, true, false, false, false, false] rfl rfl (one_of HT_.out (by kernel_rfl)) (by decide) (fun K hK => ?_)
    refine goes_ Tryd.func16 (by kernel_rfl) rfl #[.string s] (by rfl) rfl rfl (by (try simp only [List.map_toArray, List.map_cons, List.map_nil]); first | done | rfl) ?_
    with_reducible refine (locator_Dots.calls _ s _ _ hd1).mono ?_
    rintro x v5 ⟨rfl, h⟩
    have kb := blk_below kb h
    have kr := blk_below kr h
    have hb := below_step hb h
    clear h
    refine ⟨_, rfl, ?_⟩
    refine hK.out _ _ ⟨(blk_cell kb 0).trans rfl, (blk_cell kb 1).trans rfl, (blk_cell kb 2).trans rfl, (blk_cell kb 3).trans rfl, (blk_cell kb 4).trans rfl, (blk_cell kb 5).trans rfl, (blk_cell kb 6).trans rfl, (blk_cell kb 7).trans rfl, (blk_cell kb 8).trans rfl, (blk_cell kr 0).trans rfl, (blk_cell kr 1).trans rfl, (blk_cell kr 2).trans rfl, (blk_cell kr 3).trans rfl, (blk_cell kr 4).trans rfl, (blk_cell kr 5).trans rfl, (blk_cell kr 6).trans rfl, (blk_cell kr 7).trans rfl, (blk_cell kr 8).trans rfl⟩ (fun hHeld => ?_)
    clear hK K
    simp only [Act.put, List.setIfInBounds_toArray, List.set_cons_zero, List.set_cons_succ]
    refine one_ (i := 20) (N := some 40) #[true, true, true, true, true, true, true, true, true, true, true, true, true, true, true, true, true, true, true, true, true, false, false, false] rfl rfl (one_of HT_.out (by kernel_rfl)) (by decide) (fun K hK => ?_)
    refine goes_ Tryd.func17 (by kernel_rfl) rfl #[.string s] (by rfl) rfl rfl (by (try simp only [List.map_toArray, List.map_cons, List.map_nil]); first | done | rfl) ?_
    with_reducible refine (broadsheetref12_Dots.calls _ s _ _ hd2).mono ?_
    rintro x v6 ⟨rfl, h⟩
    replace h := Drawn0.below h
    have kb := blk_below kb h
    have kr := blk_below kr h
    have hb := below_step hb h
    clear h
    refine ⟨_, rfl, ?_⟩
    refine hK.out _ _ ⟨(blk_cell kb 0).trans rfl, (blk_cell kb 1).trans rfl, (blk_cell kb 2).trans rfl, (blk_cell kb 3).trans rfl, (blk_cell kb 4).trans rfl, (blk_cell kb 5).trans rfl, (blk_cell kb 6).trans rfl, (blk_cell kb 7).trans rfl, (blk_cell kb 8).trans rfl, (blk_cell kr 0).trans rfl, (blk_cell kr 1).trans rfl, (blk_cell kr 2).trans rfl, (blk_cell kr 3).trans rfl, (blk_cell kr 4).trans rfl, (blk_cell kr 5).trans rfl, (blk_cell kr 6).trans rfl, (blk_cell kr 7).trans rfl, (blk_cell kr 8).trans rfl⟩ (fun hHeld => ?_)
    clear hK K
    simp only [Act.put, List.setIfInBounds_toArray, List.set_cons_zero, List.set_cons_succ]
    refine pure_ (i := 21) (N := some 41) (v := .bool true) #[true, true, true, true, true, true, true, true, true, true, true, true, true, true, true, true, true, true, true, true, true, true, false, false] rfl rfl (any_of HT_.out (by kernel_rfl)) (fun _ _ _ h => h) (Or.inl ⟨by rfl, fun w' => by go_simp⟩) rfl ?_
    simp only [Act.put, List.setIfInBounds_toArray, List.set_cons_zero, List.set_cons_succ]
    refine pure_ (i := 22) (N := some 42) (v := .bool true) #[true, true, true, true, true, true, true, true, true, true, true, true, true, true, true, true, true, true, true, true, true, true, true, false] rfl rfl (any_of HT_.out (by kernel_rfl)) (fun _ _ _ h => h) (Or.inl ⟨by rfl, fun w' => by go_simp⟩) rfl ?_
    simp only [Act.put, List.setIfInBounds_toArray, List.set_cons_zero, List.set_cons_succ]
    refine pure_ (i := 23) (N := some 4) (v := .bool true) #[true, true, true, true, true, true, true, true, true, true, true, true, true, true, true, true, true, true, true, true, true, true, true, true] rfl rfl (any_of HT_.out (by kernel_rfl)) (fun _ _ _ h => h) (Or.inl ⟨by rfl, fun w' => by go_simp⟩) rfl ?_
    simp only [Act.put, List.setIfInBounds_toArray, List.set_cons_zero, List.set_cons_succ]
    refine done_ (done_of HT_.out (by kernel_rfl)) ?_
    clear hHeld
    go_wp2
    go_ret
    exact ⟨rfl, hb⟩
end Go.Proofs.YtldancekpigkaaaDoor.X
