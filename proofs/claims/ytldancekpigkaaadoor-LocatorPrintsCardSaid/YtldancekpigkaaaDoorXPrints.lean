/- The law LocatorPrints, walked by hand. -/
import Derived.Test.YtldancekpigkaaaDoorXAwake
import Derived.Test.YtldancekpigkaaaDoorXRefF
import Derived.Test.YtldancekpigkaaaDoorPl10
import Derived.Test.YtldancekpigkaaaDoorRowData
import Derived.BigQuiet
import Derived.Deep.QuietTactic
namespace Go.Proofs.YtldancekpigkaaaDoor.X
open Go.RowKit Go.Shelf Go.Proofs.YtldancekpigkaaaDoorW.PrintWords Go.Proofs.YtldancekpigkaaaDoorW.PrintLast Go.Proofs.YtldancekpigkaaaDoorW.PrintMore Go.Proofs.YtldancekpigkaaaDoor.Pl
set_option linter.unusedVariables false
set_option linter.unusedSimpArgs false
attribute [local go_sem high] eqU
def printsT3 : Bool × List (List Nat × List Nat) := (true, [([], []), ([0, 0], [0]), ([1], [1]), ([2, 1, 1], [1, 2]), ([1], [1]), ([4, 3, 1], [1, 4]), ([3, 5, 1], [1, 3, 5]), ([1, 6], [1, 6]), ([7, 5], [7]), ([8], [8]), ([9, 8], [8, 9]), ([10, 8, 8], [8, 10]), ([8], [8]), ([12, 8], [8, 12]), ([13, 11, 8], [8, 13]), ([11, 14, 8], [8, 11, 14]), ([8, 15], [8, 15]), ([16, 14], [16]), ([17], [17]), ([17], [17]), ([18, 19, 17, 17], [17, 18, 19]), ([17], [17]), ([17], [17]), ([21, 22, 20, 17], [17, 21, 22]), ([20, 23, 17], [17, 20, 23]), ([17, 24], [17, 24]), ([25, 23, 0, 1, 2, 3, 4, 5, 6, 7, 8, 9, 10, 11, 12, 13, 14, 15, 16, 17, 18, 19, 20, 21, 22, 23, 24, 25], [25])])
def printsB3 : List Nat := [0, 1, 3, 7, 3, 31, 63, 127, 255, 511, 1023, 2047, 511, 4607, 16383, 32767, 65535, 131071, 262143, 262143, 1048575, 262143, 262143, 8388607, 16777215, 33554431, 67108863]
theorem prints_tab3 : rtab .any (opsOf Tryd.f4 3) = printsT3 := by kernel_rfl
theorem prints_bits3 : waitsOk printsT3.2 printsB3 = true := by kernel_rfl
set_option maxHeartbeats 4000000 in
set_option maxRecDepth 100000 in
theorem prints_calls (b0 b1 b2 b3 b4 : ByteArray) (b5 b6 b7 b8 : Bool) (r0 r1 r2 r3 r4 : ByteArray) (r5 r6 r7 r8 : Bool) (x0 x1 x2 x3 x4 : ByteArray) (x5 x6 x7 x8 : Bool) (sb sr : Bool) (p d : ByteArray) (k1 k2 k3 k4 k5 : Nat)
    (hsb : broadsheetlaw12_short.f b0 b1 b2 b3 b4 b5 b6 b7 b8 = some sb) (hsr : broadsheetlaw12_short.f r0 r1 r2 r3 r4 r5 r6 r7 r8 = some sr)
    (hh : sb = true → sr = true → locator_Print.f b0 b1 b2 b3 b4 b5 b6 b7 b8 = some p ∧ broadsheetref12_Print.f k5 b0 b1 b2 b3 b4 b5 b6 b7 b8 = some p ∧ locator_Dots.f k1 b2 = some d ∧ broadsheetref12_Dots.f k2 b2 = some d ∧ locator_Resolve.f k3 b0 b1 b2 b3 b4 b5 b6 b7 b8 r0 r1 r2 r3 r4 r5 r6 r7 r8 = some (x0, x1, x2, x3, x4, x5, x6, x7, x8) ∧ broadsheetref12_Resolve.f k4 b0 b1 b2 b3 b4 b5 b6 b7 b8 r0 r1 r2 r3 r4 r5 r6 r7 r8 = some (x0, x1, x2, x3, x4, x5, x6, x7, x8)) (w : World) (hG : Glob w) :
    Calls Tryd.prog 4 #[.agg (uriC b0 b1 b2 b3 b4 b5 b6 b7 b8), .agg (uriC r0 r1 r2 r3 r4 r5 r6 r7 r8)] w fun e w' => e = .returned (.bool true) ∧ Below w.heap.size w w' := by
  have HG := Lib.hid hG
  have HH := Lib.hid hh
  clear hh
  clear hG
  have hu24 := Tryd.underlying24
  have kb0 : ((w.alloc (.cells (uriC b0 b1 b2 b3 b4 b5 b6 b7 b8) 24)).alloc (.cells (uriC r0 r1 r2 r3 r4 r5 r6 r7 r8) 24)).heap[w.heap.size]? = some (.cells (uriC b0 b1 b2 b3 b4 b5 b6 b7 b8) 24 (0, 0)) := blk_alloc (blk_new w _) _
  have kr0 : ((w.alloc (.cells (uriC b0 b1 b2 b3 b4 b5 b6 b7 b8) 24)).alloc (.cells (uriC r0 r1 r2 r3 r4 r5 r6 r7 r8) 24)).heap[w.heap.size + 1]? = some (.cells (uriC r0 r1 r2 r3 r4 r5 r6 r7 r8) 24 (0, 0)) := by
    have := blk_new (w.alloc (.cells (uriC b0 b1 b2 b3 b4 b5 b6 b7 b8) 24)) (.cells (uriC r0 r1 r2 r3 r4 r5 r6 r7 r8) 24)
    rwa [World.size_alloc] at this
  have hb0 : Below w.heap.size w ((w.alloc (.cells (uriC b0 b1 b2 b3 b4 b5 b6 b7 b8) 24)).alloc (.cells (uriC r0 r1 r2 r3 r4 r5 r6 r7 r8) 24)) := ((Below.refl _ w).alloc (Nat.le_refl _) _).alloc (by rw [World.size_alloc]; omega) _
  have KB := Aside0.mk kb0
  have KR := Aside0.mk kr0
  have HB := Aside0.mk hb0
  clear kb0 kr0 hb0
  go_enter Tryd.func4, Tryd.ntmps4
  go_wp2_with fail
  refine (broadsheetlaw12_short.calls b0 b1 b2 b3 b4 b5 b6 b7 b8 _ _ hsb).mono ?_
  rintro x w2 ⟨rfl, h⟩
  have kb := blk_below KB.out h
  have kr := blk_below KR.out h
  have hb := below_step HB.out h
  clear KB KR HB h
  have KB := Aside0.mk kb
  have KR := Aside0.mk kr
  have HB := Aside0.mk hb
  clear kb kr hb
  cases sb
  · go_wp2_with fail
    refine (awake_calls _ (HG.out.below HB.out)).mono ?_
    rintro x w3 ⟨rfl, h⟩
    go_wp2
    go_ret
    exact ⟨rfl, below_step HB.out h⟩
  obtain ⟨⟨z0, z1, z2, z3, z4, z5, z6, z7, z8⟩, -⟩ := cells9 KR.out
  go_wp2_with fail
  clear z0 z1 z2 z3 z4 z5 z6 z7 z8
  refine (broadsheetlaw12_short.calls r0 r1 r2 r3 r4 r5 r6 r7 r8 _ _ hsr).mono ?_
  rintro x w3 ⟨rfl, h⟩
  have kb := blk_below KB.out h
  have kr := blk_below KR.out h
  have hb := below_step HB.out h
  clear KB KR HB h
  have KB := Aside0.mk kb
  have KR := Aside0.mk kr
  have HB := Aside0.mk hb
  clear kb kr hb
  cases sr
  · go_wp2_with fail
    refine (awake_calls _ (HG.out.below HB.out)).mono ?_
    rintro x w4 ⟨rfl, h⟩
    go_wp2
    go_ret
    exact ⟨rfl, below_step HB.out h⟩
  obtain ⟨hp1, hp2, hd1, hd2, hr1, hr2⟩ := HH.out (by trivial) (by trivial)
  clear HH
  go_wp2_with fail
  have kb := KB.out
  have kr := KR.out
  have hb := HB.out
  clear KB KR HB
  refine start_ (n := 27) (S := fun w' => w'.cell? ⟨w.heap.size, 0, none⟩ = some (.string b0) ∧ w'.cell? ⟨w.heap.size, 1, none⟩ = some (.string b1) ∧ w'.cell? ⟨w.heap.size, 2, none⟩ = some (.string b2) ∧ w'.cell? ⟨w.heap.size, 3, none⟩ = some (.string b3) ∧ w'.cell? ⟨w.heap.size, 4, none⟩ = some (.string b4) ∧ w'.cell? ⟨w.heap.size, 5, none⟩ = some (.bool b5) ∧ w'.cell? ⟨w.heap.size, 6, none⟩ = some (.bool b6) ∧ w'.cell? ⟨w.heap.size, 7, none⟩ = some (.bool b7) ∧ w'.cell? ⟨w.heap.size, 8, none⟩ = some (.bool b8) ∧ w'.cell? ⟨w.heap.size + 1, 0, none⟩ = some (.string r0) ∧ w'.cell? ⟨w.heap.size + 1, 1, none⟩ = some (.string r1) ∧ w'.cell? ⟨w.heap.size + 1, 2, none⟩ = some (.string r2) ∧ w'.cell? ⟨w.heap.size + 1, 3, none⟩ = some (.string r3) ∧ w'.cell? ⟨w.heap.size + 1, 4, none⟩ = some (.string r4) ∧ w'.cell? ⟨w.heap.size + 1, 5, none⟩ = some (.bool r5) ∧ w'.cell? ⟨w.heap.size + 1, 6, none⟩ = some (.bool r6) ∧ w'.cell? ⟨w.heap.size + 1, 7, none⟩ = some (.bool r7) ∧ w'.cell? ⟨w.heap.size + 1, 8, none⟩ = some (.bool r8)) (ds := []) #[false, false, false, false, false, false, false, false, false, false, false, false, false, false, false, false, false, false, false, false, false, false, false, false, false, false, false] (by kernel_rfl) rfl rfl ⟨(blk_cell kb 0).trans rfl, (blk_cell kb 1).trans rfl, (blk_cell kb 2).trans rfl, (blk_cell kb 3).trans rfl, (blk_cell kb 4).trans rfl, (blk_cell kb 5).trans rfl, (blk_cell kb 6).trans rfl, (blk_cell kb 7).trans rfl, (blk_cell kb 8).trans rfl, (blk_cell kr 0).trans rfl, (blk_cell kr 1).trans rfl, (blk_cell kr 2).trans rfl, (blk_cell kr 3).trans rfl, (blk_cell kr 4).trans rfl, (blk_cell kr 5).trans rfl, (blk_cell kr 6).trans rfl, (blk_cell kr 7).trans rfl, (blk_cell kr 8).trans rfl⟩ (fun hHeld => ?_)
  refine with_tabW prints_tab3 prints_bits3 (fun HT_ HW_ => ?_)
  replace kb := blk_drew kb
  replace kr := blk_drew kr
  replace hb := below_drew1 hb
  generalize World.drew _ = v0 at kb kr hb hHeld ⊢
  refine one_ (i := 0) (N := some 14) #[true, false, false, false, false, false, false, false, false, false, false, false, false, false, false, false, false, false, false, false, false, false, false, false, false, false, false] rfl rfl (one_of HT_.out (by kernel_rfl)) (by decide) (fun K hK => ?_)
  refine goes_ Tryd.func10 (by kernel_rfl) rfl #[] (by rfl) rfl rfl (by (try simp only [List.map_toArray, List.map_cons, List.map_nil]); first | done | rfl) ?_
  with_reducible refine (awake_calls _ (HG.out.below hb)).mono ?_
  rintro x v1 ⟨rfl, h⟩
  have kb := blk_below kb h
  have kr := blk_below kr h
  have hb := below_step hb h
  clear h
  refine ⟨_, rfl, ?_⟩
  refine hK.out _ _ ⟨(blk_cell kb 0).trans rfl, (blk_cell kb 1).trans rfl, (blk_cell kb 2).trans rfl, (blk_cell kb 3).trans rfl, (blk_cell kb 4).trans rfl, (blk_cell kb 5).trans rfl, (blk_cell kb 6).trans rfl, (blk_cell kb 7).trans rfl, (blk_cell kb 8).trans rfl, (blk_cell kr 0).trans rfl, (blk_cell kr 1).trans rfl, (blk_cell kr 2).trans rfl, (blk_cell kr 3).trans rfl, (blk_cell kr 4).trans rfl, (blk_cell kr 5).trans rfl, (blk_cell kr 6).trans rfl, (blk_cell kr 7).trans rfl, (blk_cell kr 8).trans rfl⟩ (fun hHeld => ?_)
  clear hK K
  simp only [Act.put, List.setIfInBounds_toArray, List.set_cons_zero, List.set_cons_succ]
  refine pure_ (i := 1) (N := some 15) (v := .bool true) #[true, true, false, false, false, false, false, false, false, false, false, false, false, false, false, false, false, false, false, false, false, false, false, false, false, false, false] rfl rfl (any_of HT_.out (by kernel_rfl)) (fun _ _ _ h => h) (Or.inl ⟨by rfl, fun w' => by go_simp⟩) rfl ?_
  simp only [Act.put, List.setIfInBounds_toArray, List.set_cons_zero, List.set_cons_succ]
  refine take_ (i := 2) (N := some 16) (v := .agg (uriC b0 b1 b2 b3 b4 b5 b6 b7 b8)) #[true, true, true, false, false, false, false, false, false, false, false, false, false, false, false, false, false, false, false, false, false, false, false, false, false, false, false] rfl rfl (take_ofW HT_.out HW_.out (by kernel_rfl)) (fun _ _ _ h => h) (Or.inl ⟨by rfl, fun w' hS => by obtain ⟨s0, s1, s2, s3, s4, s5, s6, s7, s8, s9, s10, s11, s12, s13, s14, s15, s16, s17⟩ := hS; go_simp⟩) hHeld rfl ?_
  refine take_ (i := 4) (N := some 18) (v := .agg (uriC b0 b1 b2 b3 b4 b5 b6 b7 b8)) #[true, true, true, false, true, false, false, false, false, false, false, false, false, false, false, false, false, false, false, false, false, false, false, false, false, false, false] rfl rfl (take_ofW HT_.out HW_.out (by kernel_rfl)) (fun _ _ _ h => h) (Or.inl ⟨by rfl, fun w' hS => by obtain ⟨s0, s1, s2, s3, s4, s5, s6, s7, s8, s9, s10, s11, s12, s13, s14, s15, s16, s17⟩ := hS; go_simp⟩) hHeld rfl ?_
  simp only [Act.put, List.setIfInBounds_toArray, List.set_cons_zero, List.set_cons_succ]
  refine one_ (i := 3) (N := some 17) #[true, true, true, true, true, false, false, false, false, false, false, false, false, false, false, false, false, false, false, false, false, false, false, false, false, false, false] rfl rfl (one_of HT_.out (by kernel_rfl)) (by decide) (fun K hK => ?_)
  refine goes_ Tryd.func14 (by kernel_rfl) rfl #[.agg (uriC b0 b1 b2 b3 b4 b5 b6 b7 b8)] (by rfl) rfl rfl (by (try simp only [List.map_toArray, List.map_cons, List.map_nil]); first | done | rfl) ?_
  with_reducible refine (locator_Print.calls b0 b1 b2 b3 b4 b5 b6 b7 b8 _ _ hp1).mono ?_
  rintro x v2 ⟨rfl, h⟩
  have kb := blk_below kb h
  have kr := blk_below kr h
  have hb := below_step hb h
  clear h
  refine ⟨_, rfl, ?_⟩
  refine hK.out _ _ ⟨(blk_cell kb 0).trans rfl, (blk_cell kb 1).trans rfl, (blk_cell kb 2).trans rfl, (blk_cell kb 3).trans rfl, (blk_cell kb 4).trans rfl, (blk_cell kb 5).trans rfl, (blk_cell kb 6).trans rfl, (blk_cell kb 7).trans rfl, (blk_cell kb 8).trans rfl, (blk_cell kr 0).trans rfl, (blk_cell kr 1).trans rfl, (blk_cell kr 2).trans rfl, (blk_cell kr 3).trans rfl, (blk_cell kr 4).trans rfl, (blk_cell kr 5).trans rfl, (blk_cell kr 6).trans rfl, (blk_cell kr 7).trans rfl, (blk_cell kr 8).trans rfl⟩ (fun hHeld => ?_)
  clear hK K
  simp only [Act.put, List.setIfInBounds_toArray, List.set_cons_zero, List.set_cons_succ]
  refine one_ (i := 5) (N := some 19) #[true, true, true, true, true, true, false, false, false, false, false, false, false, false, false, false, false, false, false, false, false, false, false, false, false, false, false] rfl rfl (one_of HT_.out (by kernel_rfl)) (by decide) (fun K hK => ?_)
  refine goes_ Tryd.func15 (by kernel_rfl) rfl #[.agg (uriC b0 b1 b2 b3 b4 b5 b6 b7 b8)] (by rfl) rfl rfl (by (try simp only [List.map_toArray, List.map_cons, List.map_nil]); first | done | rfl) ?_
  with_reducible refine (broadsheetref12_Print.calls _ b0 b1 b2 b3 b4 b5 b6 b7 b8 _ _ hp2).mono ?_
  rintro x v3 ⟨rfl, h⟩
  have kb := blk_below kb h
  have kr := blk_below kr h
  have hb := below_step hb h
  clear h
  refine ⟨_, rfl, ?_⟩
  refine hK.out _ _ ⟨(blk_cell kb 0).trans rfl, (blk_cell kb 1).trans rfl, (blk_cell kb 2).trans rfl, (blk_cell kb 3).trans rfl, (blk_cell kb 4).trans rfl, (blk_cell kb 5).trans rfl, (blk_cell kb 6).trans rfl, (blk_cell kb 7).trans rfl, (blk_cell kb 8).trans rfl, (blk_cell kr 0).trans rfl, (blk_cell kr 1).trans rfl, (blk_cell kr 2).trans rfl, (blk_cell kr 3).trans rfl, (blk_cell kr 4).trans rfl, (blk_cell kr 5).trans rfl, (blk_cell kr 6).trans rfl, (blk_cell kr 7).trans rfl, (blk_cell kr 8).trans rfl⟩ (fun hHeld => ?_)
  clear hK K
  simp only [Act.put, List.setIfInBounds_toArray, List.set_cons_zero, List.set_cons_succ]
  refine pure_ (i := 6) (N := some 20) (v := .bool true) #[true, true, true, true, true, true, true, false, false, false, false, false, false, false, false, false, false, false, false, false, false, false, false, false, false, false, false] rfl rfl (any_of HT_.out (by kernel_rfl)) (fun _ _ _ h => h) (Or.inl ⟨by rfl, fun w' => by go_simp⟩) rfl ?_
  simp only [Act.put, List.setIfInBounds_toArray, List.set_cons_zero, List.set_cons_succ]
  refine pure_ (i := 7) (N := some 21) (v := .bool true) #[true, true, true, true, true, true, true, true, false, false, false, false, false, false, false, false, false, false, false, false, false, false, false, false, false, false, false] rfl rfl (any_of HT_.out (by kernel_rfl)) (fun _ _ _ h => h) (Or.inl ⟨by rfl, fun w' => by go_simp⟩) rfl ?_
  simp only [Act.put, List.setIfInBounds_toArray, List.set_cons_zero, List.set_cons_succ]
  refine pure_ (i := 8) (N := some 22) (v := .bool true) #[true, true, true, true, true, true, true, true, true, false, false, false, false, false, false, false, false, false, false, false, false, false, false, false, false, false, false] rfl rfl (any_of HT_.out (by kernel_rfl)) (fun _ _ _ h => h) (Or.inl ⟨by rfl, fun w' => by go_simp⟩) rfl ?_
  simp only [Act.put, List.setIfInBounds_toArray, List.set_cons_zero, List.set_cons_succ]
  refine pure_ (i := 9) (N := some 23) (v := .pointer (some ⟨w.heap.size, 2, none⟩)) #[true, true, true, true, true, true, true, true, true, true, false, false, false, false, false, false, false, false, false, false, false, false, false, false, false, false, false] rfl rfl (any_of HT_.out (by kernel_rfl)) (fun _ _ _ h => h) (Or.inl ⟨by rfl, fun w' => by go_simp⟩) rfl ?_
  simp only [Act.put, List.setIfInBounds_toArray, List.set_cons_zero, List.set_cons_succ]
  refine pure_ (i := 12) (N := some 26) (v := .pointer (some ⟨w.heap.size, 2, none⟩)) #[true, true, true, true, true, true, true, true, true, true, false, false, true, false, false, false, false, false, false, false, false, false, false, false, false, false, false] rfl rfl (any_of HT_.out (by kernel_rfl)) (fun _ _ _ h => h) (Or.inl ⟨by rfl, fun w' => by go_simp⟩) rfl ?_
  simp only [Act.put, List.setIfInBounds_toArray, List.set_cons_zero, List.set_cons_succ]
  refine take_ (i := 10) (N := some 24) (v := .string b2) #[true, true, true, true, true, true, true, true, true, true, true, false, true, false, false, false, false, false, false, false, false, false, false, false, false, false, false] rfl rfl (take_ofW HT_.out HW_.out (by kernel_rfl)) (fun _ _ _ h => h) (Or.inl ⟨by rfl, fun w' hS => by obtain ⟨s0, s1, s2, s3, s4, s5, s6, s7, s8, s9, s10, s11, s12, s13, s14, s15, s16, s17⟩ := hS; go_simp⟩) hHeld rfl ?_
  refine take_ (i := 13) (N := some 27) (v := .string b2) #[true, true, true, true, true, true, true, true, true, true, true, false, true, true, false, false, false, false, false, false, false, false, false, false, false, false, false] rfl rfl (take_ofW HT_.out HW_.out (by kernel_rfl)) (fun _ _ _ h => h) (Or.inl ⟨by rfl, fun w' hS => by obtain ⟨s0, s1, s2, s3, s4, s5, s6, s7, s8, s9, s10, s11, s12, s13, s14, s15, s16, s17⟩ := hS; go_simp⟩) hHeld rfl ?_
  simp only [Act.put, List.setIfInBounds_toArray, List.set_cons_zero, List.set_cons_succ]
  refine one_ (i := 11) (N := some 25) #[true, true, true, true, true, true, true, true, true, true, true, true, true, true, false, false, false, false, false, false, false, false, false, false, false, false, false] rfl rfl (one_of HT_.out (by kernel_rfl)) (by decide) (fun K hK => ?_)
  refine goes_ Tryd.func16 (by kernel_rfl) rfl #[.string b2] (by rfl) rfl rfl (by (try simp only [List.map_toArray, List.map_cons, List.map_nil]); first | done | rfl) ?_
  with_reducible refine (locator_Dots.calls _ b2 _ _ hd1).mono ?_
  rintro x v4 ⟨rfl, h⟩
  have kb := blk_below kb h
  have kr := blk_below kr h
  have hb := below_step hb h
  clear h
  refine ⟨_, rfl, ?_⟩
  refine hK.out _ _ ⟨(blk_cell kb 0).trans rfl, (blk_cell kb 1).trans rfl, (blk_cell kb 2).trans rfl, (blk_cell kb 3).trans rfl, (blk_cell kb 4).trans rfl, (blk_cell kb 5).trans rfl, (blk_cell kb 6).trans rfl, (blk_cell kb 7).trans rfl, (blk_cell kb 8).trans rfl, (blk_cell kr 0).trans rfl, (blk_cell kr 1).trans rfl, (blk_cell kr 2).trans rfl, (blk_cell kr 3).trans rfl, (blk_cell kr 4).trans rfl, (blk_cell kr 5).trans rfl, (blk_cell kr 6).trans rfl, (blk_cell kr 7).trans rfl, (blk_cell kr 8).trans rfl⟩ (fun hHeld => ?_)
  clear hK K
  simp only [Act.put, List.setIfInBounds_toArray, List.set_cons_zero, List.set_cons_succ]
  refine one_ (i := 14) (N := some 28) #[true, true, true, true, true, true, true, true, true, true, true, true, true, true, true, false, false, false, false, false, false, false, false, false, false, false, false] rfl rfl (one_of HT_.out (by kernel_rfl)) (by decide) (fun K hK => ?_)
  refine goes_ Tryd.func17 (by kernel_rfl) rfl #[.string b2] (by rfl) rfl rfl (by (try simp only [List.map_toArray, List.map_cons, List.map_nil]); first | done | rfl) ?_
  with_reducible refine (broadsheetref12_Dots.calls _ b2 _ _ hd2).mono ?_
  rintro x v5 ⟨rfl, h⟩
  replace h := Drawn0.below h
  have kb := blk_below kb h
  have kr := blk_below kr h
  have hb := below_step hb h
  clear h
  refine ⟨_, rfl, ?_⟩
  refine hK.out _ _ ⟨(blk_cell kb 0).trans rfl, (blk_cell kb 1).trans rfl, (blk_cell kb 2).trans rfl, (blk_cell kb 3).trans rfl, (blk_cell kb 4).trans rfl, (blk_cell kb 5).trans rfl, (blk_cell kb 6).trans rfl, (blk_cell kb 7).trans rfl, (blk_cell kb 8).trans rfl, (blk_cell kr 0).trans rfl, (blk_cell kr 1).trans rfl, (blk_cell kr 2).trans rfl, (blk_cell kr 3).trans rfl, (blk_cell kr 4).trans rfl, (blk_cell kr 5).trans rfl, (blk_cell kr 6).trans rfl, (blk_cell kr 7).trans rfl, (blk_cell kr 8).trans rfl⟩ (fun hHeld => ?_)
  clear hK K
  simp only [Act.put, List.setIfInBounds_toArray, List.set_cons_zero, List.set_cons_succ]
  refine pure_ (i := 15) (N := some 29) (v := .bool true) #[true, true, true, true, true, true, true, true, true, true, true, true, true, true, true, true, false, false, false, false, false, false, false, false, false, false, false] rfl rfl (any_of HT_.out (by kernel_rfl)) (fun _ _ _ h => h) (Or.inl ⟨by rfl, fun w' => by go_simp⟩) rfl ?_
  simp only [Act.put, List.setIfInBounds_toArray, List.set_cons_zero, List.set_cons_succ]
  refine pure_ (i := 16) (N := some 30) (v := .bool true) #[true, true, true, true, true, true, true, true, true, true, true, true, true, true, true, true, true, false, false, false, false, false, false, false, false, false, false] rfl rfl (any_of HT_.out (by kernel_rfl)) (fun _ _ _ h => h) (Or.inl ⟨by rfl, fun w' => by go_simp⟩) rfl ?_
  simp only [Act.put, List.setIfInBounds_toArray, List.set_cons_zero, List.set_cons_succ]
  refine pure_ (i := 17) (N := some 31) (v := .bool true) #[true, true, true, true, true, true, true, true, true, true, true, true, true, true, true, true, true, true, false, false, false, false, false, false, false, false, false] rfl rfl (any_of HT_.out (by kernel_rfl)) (fun _ _ _ h => h) (Or.inl ⟨by rfl, fun w' => by go_simp⟩) rfl ?_
  simp only [Act.put, List.setIfInBounds_toArray, List.set_cons_zero, List.set_cons_succ]
  refine take_ (i := 18) (N := some 32) (v := .agg (uriC b0 b1 b2 b3 b4 b5 b6 b7 b8)) #[true, true, true, true, true, true, true, true, true, true, true, true, true, true, true, true, true, true, true, false, false, false, false, false, false, false, false] rfl rfl (take_ofW HT_.out HW_.out (by kernel_rfl)) (fun _ _ _ h => h) (Or.inl ⟨by rfl, fun w' hS => by obtain ⟨s0, s1, s2, s3, s4, s5, s6, s7, s8, s9, s10, s11, s12, s13, s14, s15, s16, s17⟩ := hS; go_simp⟩) hHeld rfl ?_
  refine take_ (i := 19) (N := some 33) (v := .agg (uriC r0 r1 r2 r3 r4 r5 r6 r7 r8)) #[true, true, true, true, true, true, true, true, true, true, true, true, true, true, true, true, true, true, true, true, false, false, false, false, false, false, false] rfl rfl (take_ofW HT_.out HW_.out (by kernel_rfl)) (fun _ _ _ h => h) (Or.inl ⟨by rfl, fun w' hS => by obtain ⟨s0, s1, s2, s3, s4, s5, s6, s7, s8, s9, s10, s11, s12, s13, s14, s15, s16, s17⟩ := hS; go_simp⟩) hHeld rfl ?_
  refine take_ (i := 21) (N := some 35) (v := .agg (uriC b0 b1 b2 b3 b4 b5 b6 b7 b8)) #[true, true, true, true, true, true, true, true, true, true, true, true, true, true, true, true, true, true, true, true, false, true, false, false, false, false, false] rfl rfl (take_ofW HT_.out HW_.out (by kernel_rfl)) (fun _ _ _ h => h) (Or.inl ⟨by rfl, fun w' hS => by obtain ⟨s0, s1, s2, s3, s4, s5, s6, s7, s8, s9, s10, s11, s12, s13, s14, s15, s16, s17⟩ := hS; go_simp⟩) hHeld rfl ?_
  refine take_ (i := 22) (N := some 36) (v := .agg (uriC r0 r1 r2 r3 r4 r5 r6 r7 r8)) #[true, true, true, true, true, true, true, true, true, true, true, true, true, true, true, true, true, true, true, true, false, true, true, false, false, false, false] rfl rfl (take_ofW HT_.out HW_.out (by kernel_rfl)) (fun _ _ _ h => h) (Or.inl ⟨by rfl, fun w' hS => by obtain ⟨s0, s1, s2, s3, s4, s5, s6, s7, s8, s9, s10, s11, s12, s13, s14, s15, s16, s17⟩ := hS; go_simp⟩) hHeld rfl ?_
  simp only [Act.put, List.setIfInBounds_toArray, List.set_cons_zero, List.set_cons_succ]
  refine one_ (i := 20) (N := some 34) #[true, true, true, true, true, true, true, true, true, true, true, true, true, true, true, true, true, true, true, true, true, true, true, false, false, false, false] rfl rfl (one_of HT_.out (by kernel_rfl)) (by decide) (fun K hK => ?_)
  refine goes_ Tryd.func18 (by kernel_rfl) rfl #[.agg (uriC b0 b1 b2 b3 b4 b5 b6 b7 b8), .agg (uriC r0 r1 r2 r3 r4 r5 r6 r7 r8)] (by rfl) rfl rfl (by (try simp only [List.map_toArray, List.map_cons, List.map_nil]); first | done | rfl) ?_
  with_reducible refine (locator_Resolve.calls _ b0 b1 b2 b3 b4 b5 b6 b7 b8 r0 r1 r2 r3 r4 r5 r6 r7 r8 x0 x1 x2 x3 x4 x5 x6 x7 x8 _ hr1).mono ?_
  rintro x v6 ⟨rfl, h⟩
  have kb := blk_below kb h
  have kr := blk_below kr h
  have hb := below_step hb h
  clear h
  refine ⟨_, rfl, ?_⟩
  refine hK.out _ _ ⟨(blk_cell kb 0).trans rfl, (blk_cell kb 1).trans rfl, (blk_cell kb 2).trans rfl, (blk_cell kb 3).trans rfl, (blk_cell kb 4).trans rfl, (blk_cell kb 5).trans rfl, (blk_cell kb 6).trans rfl, (blk_cell kb 7).trans rfl, (blk_cell kb 8).trans rfl, (blk_cell kr 0).trans rfl, (blk_cell kr 1).trans rfl, (blk_cell kr 2).trans rfl, (blk_cell kr 3).trans rfl, (blk_cell kr 4).trans rfl, (blk_cell kr 5).trans rfl, (blk_cell kr 6).trans rfl, (blk_cell kr 7).trans rfl, (blk_cell kr 8).trans rfl⟩ (fun hHeld => ?_)
  clear hK K
  simp only [Act.put, List.setIfInBounds_toArray, List.set_cons_zero, List.set_cons_succ]
  refine one_ (i := 23) (N := some 37) #[true, true, true, true, true, true, true, true, true, true, true, true, true, true, true, true, true, true, true, true, true, true, true, true, false, false, false] rfl rfl (one_of HT_.out (by kernel_rfl)) (by decide) (fun K hK => ?_)
  refine goes_ Tryd.func19 (by kernel_rfl) rfl #[.agg (uriC b0 b1 b2 b3 b4 b5 b6 b7 b8), .agg (uriC r0 r1 r2 r3 r4 r5 r6 r7 r8)] (by rfl) rfl rfl (by (try simp only [List.map_toArray, List.map_cons, List.map_nil]); first | done | rfl) ?_
  with_reducible refine (broadsheetref12_Resolve.calls _ b0 b1 b2 b3 b4 b5 b6 b7 b8 r0 r1 r2 r3 r4 r5 r6 r7 r8 x0 x1 x2 x3 x4 x5 x6 x7 x8 _ hr2).mono ?_
  rintro x v7 ⟨rfl, h⟩
  have kb := blk_below kb h
  have kr := blk_below kr h
  have hb := below_step hb h
  clear h
  refine ⟨_, rfl, ?_⟩
  refine hK.out _ _ ⟨(blk_cell kb 0).trans rfl, (blk_cell kb 1).trans rfl, (blk_cell kb 2).trans rfl, (blk_cell kb 3).trans rfl, (blk_cell kb 4).trans rfl, (blk_cell kb 5).trans rfl, (blk_cell kb 6).trans rfl, (blk_cell kb 7).trans rfl, (blk_cell kb 8).trans rfl, (blk_cell kr 0).trans rfl, (blk_cell kr 1).trans rfl, (blk_cell kr 2).trans rfl, (blk_cell kr 3).trans rfl, (blk_cell kr 4).trans rfl, (blk_cell kr 5).trans rfl, (blk_cell kr 6).trans rfl, (blk_cell kr 7).trans rfl, (blk_cell kr 8).trans rfl⟩ (fun hHeld => ?_)
  clear hK K
  simp only [Act.put, List.setIfInBounds_toArray, List.set_cons_zero, List.set_cons_succ]
  refine pure_ (i := 24) (N := some 38) (v := .bool true) #[true, true, true, true, true, true, true, true, true, true, true, true, true, true, true, true, true, true, true, true, true, true, true, true, true, false, false] rfl rfl (any_of HT_.out (by kernel_rfl)) (fun _ _ _ h => h) (Or.inl ⟨by rfl, fun w' => by go_simp⟩) rfl ?_
  simp only [Act.put, List.setIfInBounds_toArray, List.set_cons_zero, List.set_cons_succ]
  refine pure_ (i := 25) (N := some 39) (v := .bool true) #[true, true, true, true, true, true, true, true, true, true, true, true, true, true, true, true, true, true, true, true, true, true, true, true, true, true, false] rfl rfl (any_of HT_.out (by kernel_rfl)) (fun _ _ _ h => h) (Or.inl ⟨by rfl, fun w' => by go_simp⟩) rfl ?_
  simp only [Act.put, List.setIfInBounds_toArray, List.set_cons_zero, List.set_cons_succ]
  refine pure_ (i := 26) (N := some 4) (v := .bool true) #[true, true, true, true, true, true, true, true, true, true, true, true, true, true, true, true, true, true, true, true, true, true, true, true, true, true, true] rfl rfl (any_of HT_.out (by kernel_rfl)) (fun _ _ _ h => h) (Or.inl ⟨by rfl, fun w' => by go_simp⟩) rfl ?_
  simp only [Act.put, List.setIfInBounds_toArray, List.set_cons_zero, List.set_cons_succ]
  refine done_ (done_of HT_.out (by kernel_rfl)) ?_
  clear hHeld
  go_wp2
  go_ret
  exact ⟨rfl, hb⟩
end Go.Proofs.YtldancekpigkaaaDoor.X
