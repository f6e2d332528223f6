/- The law MediaFits, walked by hand (printed by genlawc.py): the program's and the reference's Param, Fits and Print side by side. -/
import Derived.Test.YtdecjlkfpbgkgaaGreatDoorXExt
import Derived.Test.YtdecjlkfpbgkgaaGreatDoorPm6
import Derived.Test.YtdecjlkfpbgkgaaGreatDoorPm8
import Derived.Test.YtdecjlkfpbgkgaaGreatDoorPm10
namespace Go.Proofs.YtdecjlkfpbgkgaaGreatDoor.X
open Go.RowKit Go.Shelf Go.Proofs.YtdecjlkfpbgkgaaGreatDoorW.PrintWords Go.Proofs.YtdecjlkfpbgkgaaGreatDoorW.PrintLast Go.Proofs.YtdecjlkfpbgkgaaGreatDoorW.PrintMore Go.Proofs.YtdecjlkfpbgkgaaGreatDoor.F Go.Proofs.YtdecjlkfpbgkgaaGreatDoor.Pm
set_option linter.unusedVariables false
set_option linter.unusedSimpArgs false
def lfitsT : Bool × List (List Nat × List Nat) := (true, [([], []), ([0, 0], [0]), ([1], [1]), ([1], [1]), ([2, 3, 1], [1, 2, 3]), ([1, 4], [1, 4]), ([5, 1], [5]), ([6], [6]), ([6], [6]), ([7, 8, 6], [6, 7, 8]), ([6, 9], [6, 9]), ([10, 6], [10]), ([11], [11]), ([11], [11]), ([12, 13, 11, 11], [11, 12, 13]), ([11], [11]), ([11], [11]), ([15, 16, 14, 11], [11, 15, 16]), ([14, 17, 11], [11, 14, 17]), ([11, 18], [11, 18]), ([19, 17], [19]), ([20], [20]), ([21, 20, 20], [20, 21]), ([20], [20]), ([23, 22, 20], [20, 23]), ([22, 24, 20], [20, 22, 24]), ([20, 25], [20, 25]), ([26, 24, 0, 1, 2, 3, 4, 5, 6, 7, 8, 9, 10, 11, 12, 13, 14, 15, 16, 17, 18, 19, 20, 21, 22, 23, 24, 25, 26], [26])])
def lfitsB : List Nat := [0, 1, 3, 3, 15, 31, 63, 127, 127, 511, 1023, 2047, 4095, 4095, 16383, 4095, 4095, 102399, 262143, 524287, 1048575, 2097151, 4194303, 2097151, 10485759, 33554431, 67108863, 134217727]
theorem lfits_tab : rtab .any (opsOf Tryz.f4 5) = lfitsT := by kernel_rfl
theorem lfits_bits : waitsOk lfitsT.2 lfitsB = true := by kernel_rfl
set_option maxHeartbeats 8000000 in
set_option maxRecDepth 100000 in
theorem lfits_one (a1 a2 : ByteArray) (a3 : Option Addr) (a5 : Nat) (al : List S38) (b1 b2 : ByteArray) (b3 : Option Addr) (b5 : Nat) (bl : List S38) (n : ByteArray) (w : World)
    (hC : Kd.C k38 w a3 al.length al) (hc : al.length ≤ a5) (hC' : Kd.C k38 w b3 bl.length bl) (hc' : bl.length ≤ b5) (k1 k2 : Nat) (q1 : broadsheetlaw13_few.f k1 a1 a2 al = some false) :
    Calls Tryz.prog 4 #[.agg #[.string a1, .string a2, .slice a3 al.length a5], .agg #[.string b1, .string b2, .slice b3 bl.length b5], .string n] w fun e w' => e = .returned (.bool true) ∧ Below w.heap.size w w' := by
  have hu25 := Tryz.underlying25
  have HC := Aside0.mk (And.intro hC (And.intro hc (And.intro hC' hc')))
  have HQ := Aside0.mk (And.intro q1 trivial)
  clear hC hc hC' hc'
  clear q1
  have hk0 := Tri.new w 25 (.string a1) (.string a2) (.slice a3 al.length a5)
  have hB0 : Below w.heap.size w (w.alloc (.cells #[.string a1, .string a2, .slice a3 al.length a5] 25)) := (Below.refl _ _).alloc (Nat.le_refl _) _
  have hs0 : (w.alloc (.cells #[.string a1, .string a2, .slice a3 al.length a5] 25)).heap.size = w.heap.size + 1 := World.size_alloc _ _
  obtain ⟨W0, hW0⟩ : ∃ x, w.alloc (.cells #[.string a1, .string a2, .slice a3 al.length a5] 25) = x := ⟨_, rfl⟩
  rw [hW0] at hk0 hB0 hs0
  have hj1 := Tri.new W0 25 (.string b1) (.string b2) (.slice b3 bl.length b5)
  have hk1 := hk0.below ((Below.refl W0.heap.size W0).alloc (Nat.le_refl _) (.cells #[.string b1, .string b2, .slice b3 bl.length b5] 25))
  have hB1 : Below w.heap.size w (W0.alloc (.cells #[.string b1, .string b2, .slice b3 bl.length b5] 25)) := hB0.alloc hB0.size _
  obtain ⟨W1, hW1⟩ : ∃ x, W0.alloc (.cells #[.string b1, .string b2, .slice b3 bl.length b5] 25) = x := ⟨_, rfl⟩
  rw [hW1] at hk1 hB1 hj1
  rw [hs0] at hj1
  have HX := Aside0.mk hk1
  have HY := Aside0.mk hj1
  have HB1 := Aside0.mk hB1
  have d0 := hk1.c0
  have d1 := hk1.c1
  have d2 := hk1.c2
  have e0 := hj1.c0
  have e1 := hj1.c1
  have e2 := hj1.c2
  clear hk0 hB0 hk1 hj1 hB1
  go_enter Tryz.func4, Tryz.ntmps4
  go_wp2_with fail
  refine (broadsheetlaw13_few.calls k1 a1 a2 a3 a5 al false W1 (Kd.C_below HC.out.1 HB1.out) HC.out.2.1 HQ.out.1).mono ?_
  rintro e w2 ⟨rfl, h2⟩
  have HX2 := Aside0.mk (HX.out.below h2)
  have HY2 := Aside0.mk (HY.out.below h2)
  have HB2 := Aside0.mk (HB1.out.trans (h2.mono HB1.out.size))
  clear d0 d1 d2 e0 e1 e2 h2 HX HY HB1 hs0 hW0 hW1
  have e0 := HY2.out.c0
  have e1 := HY2.out.c1
  have e2 := HY2.out.c2
  go_wp2_with fail
  refine (awake_calls _).mono ?_
  rintro e w9 ⟨rfl, h9⟩
  have HF := Aside0.mk (HB2.out.trans (h9.mono HB2.out.size))
  clear h9
  go_wp2_with fail
  go_ret
  exact ⟨rfl, HF.out⟩
set_option maxHeartbeats 8000000 in
set_option maxRecDepth 100000 in
theorem lfits_two (a1 a2 : ByteArray) (a3 : Option Addr) (a5 : Nat) (al : List S38) (b1 b2 : ByteArray) (b3 : Option Addr) (b5 : Nat) (bl : List S38) (n : ByteArray) (w : World)
    (hC : Kd.C k38 w a3 al.length al) (hc : al.length ≤ a5) (hC' : Kd.C k38 w b3 bl.length bl) (hc' : bl.length ≤ b5) (k1 k2 : Nat) (q1 : broadsheetlaw13_few.f k1 a1 a2 al = some true) (q2 : broadsheetlaw13_few.f k2 b1 b2 bl = some false) :
    Calls Tryz.prog 4 #[.agg #[.string a1, .string a2, .slice a3 al.length a5], .agg #[.string b1, .string b2, .slice b3 bl.length b5], .string n] w fun e w' => e = .returned (.bool true) ∧ Below w.heap.size w w' := by
  have hu25 := Tryz.underlying25
  have HC := Aside0.mk (And.intro hC (And.intro hc (And.intro hC' hc')))
  have HQ := Aside0.mk (And.intro q1 q2)
  clear hC hc hC' hc'
  clear q1 q2
  have hk0 := Tri.new w 25 (.string a1) (.string a2) (.slice a3 al.length a5)
  have hB0 : Below w.heap.size w (w.alloc (.cells #[.string a1, .string a2, .slice a3 al.length a5] 25)) := (Below.refl _ _).alloc (Nat.le_refl _) _
  have hs0 : (w.alloc (.cells #[.string a1, .string a2, .slice a3 al.length a5] 25)).heap.size = w.heap.size + 1 := World.size_alloc _ _
  obtain ⟨W0, hW0⟩ : ∃ x, w.alloc (.cells #[.string a1, .string a2, .slice a3 al.length a5] 25) = x := ⟨_, rfl⟩
  rw [hW0] at hk0 hB0 hs0
  have hj1 := Tri.new W0 25 (.string b1) (.string b2) (.slice b3 bl.length b5)
  have hk1 := hk0.below ((Below.refl W0.heap.size W0).alloc (Nat.le_refl _) (.cells #[.string b1, .string b2, .slice b3 bl.length b5] 25))
  have hB1 : Below w.heap.size w (W0.alloc (.cells #[.string b1, .string b2, .slice b3 bl.length b5] 25)) := hB0.alloc hB0.size _
  obtain ⟨W1, hW1⟩ : ∃ x, W0.alloc (.cells #[.string b1, .string b2, .slice b3 bl.length b5] 25) = x := ⟨_, rfl⟩
  rw [hW1] at hk1 hB1 hj1
  rw [hs0] at hj1
  have HX := Aside0.mk hk1
  have HY := Aside0.mk hj1
  have HB1 := Aside0.mk hB1
  have d0 := hk1.c0
  have d1 := hk1.c1
  have d2 := hk1.c2
  have e0 := hj1.c0
  have e1 := hj1.c1
  have e2 := hj1.c2
  clear hk0 hB0 hk1 hj1 hB1
  go_enter Tryz.func4, Tryz.ntmps4
  go_wp2_with fail
  refine (broadsheetlaw13_few.calls k1 a1 a2 a3 a5 al true W1 (Kd.C_below HC.out.1 HB1.out) HC.out.2.1 HQ.out.1).mono ?_
  rintro e w2 ⟨rfl, h2⟩
  have HX2 := Aside0.mk (HX.out.below h2)
  have HY2 := Aside0.mk (HY.out.below h2)
  have HB2 := Aside0.mk (HB1.out.trans (h2.mono HB1.out.size))
  clear d0 d1 d2 e0 e1 e2 h2 HX HY HB1 hs0 hW0 hW1
  have e0 := HY2.out.c0
  have e1 := HY2.out.c1
  have e2 := HY2.out.c2
  go_wp2_with fail
  refine (broadsheetlaw13_few.calls k2 b1 b2 b3 b5 bl false w2 (Kd.C_below HC.out.2.2.1 HB2.out) HC.out.2.2.2 HQ.out.2).mono ?_
  rintro e w3 ⟨rfl, h3⟩
  have HX3 := Aside0.mk (HX2.out.below h3)
  have HY3 := Aside0.mk (HY2.out.below h3)
  have HB3 := Aside0.mk (HB2.out.trans (h3.mono HB2.out.size))
  clear e0 e1 e2 h3 HX2 HY2 HB2
  have e0 := HY3.out.c0
  have e1 := HY3.out.c1
  have e2 := HY3.out.c2
  go_wp2_with fail
  refine (awake_calls _).mono ?_
  rintro e w9 ⟨rfl, h9⟩
  have HF := Aside0.mk (HB3.out.trans (h9.mono HB3.out.size))
  clear h9
  go_wp2_with fail
  go_ret
  exact ⟨rfl, HF.out⟩
set_option maxHeartbeats 8000000 in
set_option maxRecDepth 100000 in
theorem lfits_main (a1 a2 : ByteArray) (a3 : Option Addr) (a5 : Nat) (al : List S38) (b1 b2 : ByteArray) (b3 : Option Addr) (b5 : Nat) (bl : List S38) (n : ByteArray) (w : World)
    (hC : Kd.C k38 w a3 al.length al) (hc : al.length ≤ a5) (hC' : Kd.C k38 w b3 bl.length bl) (hc' : bl.length ≤ b5) (k1 k2 : Nat) (k3 k4 k5 : Nat) (q1 : broadsheetlaw13_few.f k1 a1 a2 al = some true) (q2 : broadsheetlaw13_few.f k2 b1 b2 bl = some true) (hp : broadsheetref13_Param.f k3 b1 b2 bl n = some (paramW bl n)) (va : ∀ x ∈ al, x.f1.size ≤ 140737488355328) (vb : ∀ x ∈ bl, x.f1.size ≤ 140737488355328)
    (fv : Bool) (pt : ByteArray) (f1 : fitsV a1 a2 al b1 b2 bl = fv) (f2 : broadsheetref13_Fits.f k4 a1 a2 al b1 b2 bl = some fv) (g1 : media_Print.f b1 b2 bl = some pt) (g2 : broadsheetref13_Print.f k5 b1 b2 bl = some pt) :
    Calls Tryz.prog 4 #[.agg #[.string a1, .string a2, .slice a3 al.length a5], .agg #[.string b1, .string b2, .slice b3 bl.length b5], .string n] w fun e w' => e = .returned (.bool true) ∧ Below w.heap.size w w' := by
  have hu25 := Tryz.underlying25
  have HC := Aside0.mk (And.intro hC (And.intro hc (And.intro hC' hc')))
  have HQ := Aside0.mk (And.intro q1 q2)
  clear hC hc hC' hc'
  have HP := Aside0.mk hp
  have HV := Aside0.mk (And.intro va vb)
  have HF := Aside0.mk (And.intro f1 (And.intro f2 (And.intro g1 g2)))
  clear q1 q2 hp va vb f1 f2 g1 g2
  have hk0 := Tri.new w 25 (.string a1) (.string a2) (.slice a3 al.length a5)
  have hB0 : Below w.heap.size w (w.alloc (.cells #[.string a1, .string a2, .slice a3 al.length a5] 25)) := (Below.refl _ _).alloc (Nat.le_refl _) _
  have hs0 : (w.alloc (.cells #[.string a1, .string a2, .slice a3 al.length a5] 25)).heap.size = w.heap.size + 1 := World.size_alloc _ _
  obtain ⟨W0, hW0⟩ : ∃ x, w.alloc (.cells #[.string a1, .string a2, .slice a3 al.length a5] 25) = x := ⟨_, rfl⟩
  rw [hW0] at hk0 hB0 hs0
  have hj1 := Tri.new W0 25 (.string b1) (.string b2) (.slice b3 bl.length b5)
  have hk1 := hk0.below ((Below.refl W0.heap.size W0).alloc (Nat.le_refl _) (.cells #[.string b1, .string b2, .slice b3 bl.length b5] 25))
  have hB1 : Below w.heap.size w (W0.alloc (.cells #[.string b1, .string b2, .slice b3 bl.length b5] 25)) := hB0.alloc hB0.size _
  obtain ⟨W1, hW1⟩ : ∃ x, W0.alloc (.cells #[.string b1, .string b2, .slice b3 bl.length b5] 25) = x := ⟨_, rfl⟩
  rw [hW1] at hk1 hB1 hj1
  rw [hs0] at hj1
  have HX := Aside0.mk hk1
  have HY := Aside0.mk hj1
  have HB1 := Aside0.mk hB1
  have d0 := hk1.c0
  have d1 := hk1.c1
  have d2 := hk1.c2
  have e0 := hj1.c0
  have e1 := hj1.c1
  have e2 := hj1.c2
  clear hk0 hB0 hk1 hj1 hB1
  go_enter Tryz.func4, Tryz.ntmps4
  go_wp2_with fail
  refine (broadsheetlaw13_few.calls k1 a1 a2 a3 a5 al true W1 (Kd.C_below HC.out.1 HB1.out) HC.out.2.1 HQ.out.1).mono ?_
  rintro e w2 ⟨rfl, h2⟩
  have HX2 := Aside0.mk (HX.out.below h2)
  have HY2 := Aside0.mk (HY.out.below h2)
  have HB2 := Aside0.mk (HB1.out.trans (h2.mono HB1.out.size))
  clear d0 d1 d2 e0 e1 e2 h2 HX HY HB1 hs0 hW0 hW1
  have e0 := HY2.out.c0
  have e1 := HY2.out.c1
  have e2 := HY2.out.c2
  go_wp2_with fail
  refine (broadsheetlaw13_few.calls k2 b1 b2 b3 b5 bl true w2 (Kd.C_below HC.out.2.2.1 HB2.out) HC.out.2.2.2 HQ.out.2).mono ?_
  rintro e w3 ⟨rfl, h3⟩
  have HX3 := Aside0.mk (HX2.out.below h3)
  have HY3 := Aside0.mk (HY2.out.below h3)
  have HB3 := Aside0.mk (HB2.out.trans (h3.mono HB2.out.size))
  clear e0 e1 e2 h3 HX2 HY2 HB2
  have e0 := HY3.out.c0
  have e1 := HY3.out.c1
  have e2 := HY3.out.c2
  go_wp2_with fail
  refine (param_calls b1 b2 b3 b5 bl n w3 (Kd.C_below HC.out.2.2.1 HB3.out) HC.out.2.2.2).mono ?_
  rintro e w4 ⟨rfl, h4⟩
  have HX4 := Aside0.mk (HX3.out.below h4)
  have HY4 := Aside0.mk (HY3.out.below h4)
  have HB4 := Aside0.mk (HB3.out.trans (h4.mono HB3.out.size))
  clear e0 e1 e2 h4 HX3 HY3 HB3
  have e0 := HY4.out.c0
  have e1 := HY4.out.c1
  have e2 := HY4.out.c2
  obtain ⟨pv, hpv⟩ : ∃ v, (paramW bl n).1 = v := ⟨_, rfl⟩
  obtain ⟨pk, hpk⟩ : ∃ v, (paramW bl n).2 = v := ⟨_, rfl⟩
  have HP2 := Aside0.mk (show broadsheetref13_Param.f k3 b1 b2 bl n = some (pv, pk) from by rw [← hpv, ← hpk]; exact HP.out)
  rw [hpv, hpk]
  clear hpv hpk
  go_wp2_with fail
  refine (broadsheetref13_Param.calls k3 b1 b2 b3 b5 bl n pv pk w4 (Kd.C_below HC.out.2.2.1 HB4.out) HC.out.2.2.2 HP2.out).mono ?_
  rintro e w6 ⟨rfl, h6⟩
  have KX := Aside0.mk (HX4.out.below h6)
  have KY := Aside0.mk (HY4.out.below h6)
  have KW := Aside0.mk (HB4.out.trans (h6.mono HB4.out.size))
  clear e0 e1 e2 h6 HX4 HY4 HB4 HP2
  go_wp2_with fail
  refine start_ (n := 28) (S := fun w' => w'.cell? ⟨w.heap.size, 0, none⟩ = some (.string a1) ∧ w'.cell? ⟨w.heap.size, 1, none⟩ = some (.string a2) ∧ w'.cell? ⟨w.heap.size, 2, none⟩ = some (.slice a3 al.length a5) ∧ w'.cell? ⟨w.heap.size + 1, 0, none⟩ = some (.string b1) ∧ w'.cell? ⟨w.heap.size + 1, 1, none⟩ = some (.string b2) ∧ w'.cell? ⟨w.heap.size + 1, 2, none⟩ = some (.slice b3 bl.length b5)) (ds := []) #[false, false, false, false, false, false, false, false, false, false, false, false, false, false, false, false, false, false, false, false, false, false, false, false, false, false, false, false] (by kernel_rfl) rfl rfl ⟨KX.out.c0, KX.out.c1, KX.out.c2, KY.out.c0, KY.out.c1, KY.out.c2⟩ (fun hHeld => ?_)
  refine with_tabW lfits_tab lfits_bits (fun HT_ HW_ => ?_)
  have hd : Below w6.heap.size w6 w6.drew := (Below.refl _ _).drew
  replace KX := Aside0.mk (KX.out.below hd)
  replace KY := Aside0.mk (KY.out.below hd)
  replace KW := Aside0.mk (KW.out.trans (hd.mono KW.out.size))
  clear hd
  generalize World.drew _ = v0 at KX KY KW hHeld ⊢
  refine one_ (i := 0) (N := some 32) #[true, false, false, false, false, false, false, false, false, false, false, false, false, false, false, false, false, false, false, false, false, false, false, false, false, false, false, false] rfl rfl (one_of HT_.out (by kernel_rfl)) (by decide) (fun K hK => ?_)
  refine goes_ Tryz.func9 (by kernel_rfl) rfl #[] (by rfl) rfl rfl (by (try simp only [List.map_toArray, List.map_cons, List.map_nil]); first | done | rfl) ?_
  with_reducible refine (awake_calls _).mono ?_
  rintro e_ v1 ⟨rfl, h⟩
  replace KX := Aside0.mk (KX.out.below h)
  replace KY := Aside0.mk (KY.out.below h)
  replace KW := Aside0.mk (KW.out.trans (h.mono KW.out.size))
  clear h
  refine ⟨_, rfl, ?_⟩
  refine hK.out _ _ ⟨KX.out.c0, KX.out.c1, KX.out.c2, KY.out.c0, KY.out.c1, KY.out.c2⟩ (fun hHeld => ?_)
  clear hK K
  simp only [Act.put, List.setIfInBounds_toArray, List.set_cons_zero, List.set_cons_succ]
  refine pure_ (i := 1) (N := some 33) (v := .bool true) #[true, true, false, false, false, false, false, false, false, false, false, false, false, false, false, false, false, false, false, false, false, false, false, false, false, false, false, false] rfl rfl (any_of HT_.out (by kernel_rfl)) (fun _ _ _ h => h) (Or.inl ⟨by rfl, fun w' => by go_simp⟩) rfl ?_
  simp only [Act.put, List.setIfInBounds_toArray, List.set_cons_zero, List.set_cons_succ]
  refine pure_ (i := 2) (N := some 34) (v := .string pv) #[true, true, true, false, false, false, false, false, false, false, false, false, false, false, false, false, false, false, false, false, false, false, false, false, false, false, false, false] rfl rfl (any_of HT_.out (by kernel_rfl)) (fun _ _ _ h => h) (Or.inl ⟨by rfl, fun w' => by go_simp⟩) rfl ?_
  simp only [Act.put, List.setIfInBounds_toArray, List.set_cons_zero, List.set_cons_succ]
  refine pure_ (i := 3) (N := some 35) (v := .string pv) #[true, true, true, true, false, false, false, false, false, false, false, false, false, false, false, false, false, false, false, false, false, false, false, false, false, false, false, false] rfl rfl (any_of HT_.out (by kernel_rfl)) (fun _ _ _ h => h) (Or.inl ⟨by rfl, fun w' => by go_simp⟩) rfl ?_
  simp only [Act.put, List.setIfInBounds_toArray, List.set_cons_zero, List.set_cons_succ]
  refine pure_ (i := 4) (N := some 36) (v := .bool true) #[true, true, true, true, true, false, false, false, false, false, false, false, false, false, false, false, false, false, false, false, false, false, false, false, false, false, false, false] rfl rfl (any_of HT_.out (by kernel_rfl)) (fun _ _ _ h => h) (Or.inl ⟨by rfl, fun w' => by go_simp⟩) rfl ?_
  simp only [Act.put, List.setIfInBounds_toArray, List.set_cons_zero, List.set_cons_succ]
  refine pure_ (i := 5) (N := some 37) (v := .bool true) #[true, true, true, true, true, true, false, false, false, false, false, false, false, false, false, false, false, false, false, false, false, false, false, false, false, false, false, false] rfl rfl (any_of HT_.out (by kernel_rfl)) (fun _ _ _ h => h) (Or.inl ⟨by rfl, fun w' => by go_simp⟩) rfl ?_
  simp only [Act.put, List.setIfInBounds_toArray, List.set_cons_zero, List.set_cons_succ]
  refine pure_ (i := 6) (N := some 38) (v := .bool true) #[true, true, true, true, true, true, true, false, false, false, false, false, false, false, false, false, false, false, false, false, false, false, false, false, false, false, false, false] rfl rfl (any_of HT_.out (by kernel_rfl)) (fun _ _ _ h => h) (Or.inl ⟨by rfl, fun w' => by go_simp⟩) rfl ?_
  simp only [Act.put, List.setIfInBounds_toArray, List.set_cons_zero, List.set_cons_succ]
  refine pure_ (i := 7) (N := some 39) (v := .bool pk) #[true, true, true, true, true, true, true, true, false, false, false, false, false, false, false, false, false, false, false, false, false, false, false, false, false, false, false, false] rfl rfl (any_of HT_.out (by kernel_rfl)) (fun _ _ _ h => h) (Or.inl ⟨by rfl, fun w' => by go_simp⟩) rfl ?_
  simp only [Act.put, List.setIfInBounds_toArray, List.set_cons_zero, List.set_cons_succ]
  refine pure_ (i := 8) (N := some 40) (v := .bool pk) #[true, true, true, true, true, true, true, true, true, false, false, false, false, false, false, false, false, false, false, false, false, false, false, false, false, false, false, false] rfl rfl (any_of HT_.out (by kernel_rfl)) (fun _ _ _ h => h) (Or.inl ⟨by rfl, fun w' => by go_simp⟩) rfl ?_
  simp only [Act.put, List.setIfInBounds_toArray, List.set_cons_zero, List.set_cons_succ]
  refine pure_ (i := 9) (N := some 41) (v := .bool true) #[true, true, true, true, true, true, true, true, true, true, false, false, false, false, false, false, false, false, false, false, false, false, false, false, false, false, false, false] rfl rfl (any_of HT_.out (by kernel_rfl)) (fun _ _ _ h => h) (Or.inl ⟨by rfl, fun w' => by go_simp⟩) rfl ?_
  simp only [Act.put, List.setIfInBounds_toArray, List.set_cons_zero, List.set_cons_succ]
  refine pure_ (i := 10) (N := some 42) (v := .bool true) #[true, true, true, true, true, true, true, true, true, true, true, false, false, false, false, false, false, false, false, false, false, false, false, false, false, false, false, false] rfl rfl (any_of HT_.out (by kernel_rfl)) (fun _ _ _ h => h) (Or.inl ⟨by rfl, fun w' => by go_simp⟩) rfl ?_
  simp only [Act.put, List.setIfInBounds_toArray, List.set_cons_zero, List.set_cons_succ]
  refine pure_ (i := 11) (N := some 43) (v := .bool true) #[true, true, true, true, true, true, true, true, true, true, true, true, false, false, false, false, false, false, false, false, false, false, false, false, false, false, false, false] rfl rfl (any_of HT_.out (by kernel_rfl)) (fun _ _ _ h => h) (Or.inl ⟨by rfl, fun w' => by go_simp⟩) rfl ?_
  simp only [Act.put, List.setIfInBounds_toArray, List.set_cons_zero, List.set_cons_succ]
  refine take_ (i := 12) (N := some 44) (v := .agg #[.string a1, .string a2, .slice a3 al.length a5]) #[true, true, true, true, true, true, true, true, true, true, true, true, true, false, false, false, false, false, false, false, false, false, false, false, false, false, false, false] rfl rfl (take_ofW HT_.out HW_.out (by kernel_rfl)) (fun _ _ _ h => h) (Or.inl ⟨by rfl, fun w' hS => by obtain ⟨s0, s1, s2, s3, s4, s5⟩ := hS; go_simp⟩) hHeld rfl ?_
  simp only [Act.put, List.setIfInBounds_toArray, List.set_cons_zero, List.set_cons_succ]
  refine take_ (i := 13) (N := some 45) (v := .agg #[.string b1, .string b2, .slice b3 bl.length b5]) #[true, true, true, true, true, true, true, true, true, true, true, true, true, true, false, false, false, false, false, false, false, false, false, false, false, false, false, false] rfl rfl (take_ofW HT_.out HW_.out (by kernel_rfl)) (fun _ _ _ h => h) (Or.inl ⟨by rfl, fun w' hS => by obtain ⟨s0, s1, s2, s3, s4, s5⟩ := hS; go_simp⟩) hHeld rfl ?_
  simp only [Act.put, List.setIfInBounds_toArray, List.set_cons_zero, List.set_cons_succ]
  refine take_ (i := 15) (N := some 47) (v := .agg #[.string a1, .string a2, .slice a3 al.length a5]) #[true, true, true, true, true, true, true, true, true, true, true, true, true, true, false, true, false, false, false, false, false, false, false, false, false, false, false, false] rfl rfl (take_ofW HT_.out HW_.out (by kernel_rfl)) (fun _ _ _ h => h) (Or.inl ⟨by rfl, fun w' hS => by obtain ⟨s0, s1, s2, s3, s4, s5⟩ := hS; go_simp⟩) hHeld rfl ?_
  simp only [Act.put, List.setIfInBounds_toArray, List.set_cons_zero, List.set_cons_succ]
  refine take_ (i := 16) (N := some 48) (v := .agg #[.string b1, .string b2, .slice b3 bl.length b5]) #[true, true, true, true, true, true, true, true, true, true, true, true, true, true, false, true, true, false, false, false, false, false, false, false, false, false, false, false] rfl rfl (take_ofW HT_.out HW_.out (by kernel_rfl)) (fun _ _ _ h => h) (Or.inl ⟨by rfl, fun w' hS => by obtain ⟨s0, s1, s2, s3, s4, s5⟩ := hS; go_simp⟩) hHeld rfl ?_
  simp only [Act.put, List.setIfInBounds_toArray, List.set_cons_zero, List.set_cons_succ]
  refine one_ (i := 14) (N := some 46) #[true, true, true, true, true, true, true, true, true, true, true, true, true, true, true, true, true, false, false, false, false, false, false, false, false, false, false, false] rfl rfl (one_of HT_.out (by kernel_rfl)) (by decide) (fun K hK => ?_)
  refine goes_ Tryz.func16 (by kernel_rfl) rfl #[.agg #[.string a1, .string a2, .slice a3 al.length a5], .agg #[.string b1, .string b2, .slice b3 bl.length b5]] (by rfl) rfl rfl (by (try simp only [List.map_toArray, List.map_cons, List.map_nil]); first | done | rfl) ?_
  with_reducible refine (fits_calls a1 a2 a3 a5 al b1 b2 b3 b5 bl _ (Kd.C_below HC.out.1 KW.out) HC.out.2.1 (Kd.C_below HC.out.2.2.1 KW.out) HC.out.2.2.2 HV.out.1 HV.out.2 fv HF.out.1).mono ?_
  rintro e_ v2 ⟨rfl, h⟩
  replace KX := Aside0.mk (KX.out.below h)
  replace KY := Aside0.mk (KY.out.below h)
  replace KW := Aside0.mk (KW.out.trans (h.mono KW.out.size))
  clear h
  refine ⟨_, rfl, ?_⟩
  refine hK.out _ _ ⟨KX.out.c0, KX.out.c1, KX.out.c2, KY.out.c0, KY.out.c1, KY.out.c2⟩ (fun hHeld => ?_)
  clear hK K
  simp only [Act.put, List.setIfInBounds_toArray, List.set_cons_zero, List.set_cons_succ]
  refine one_ (i := 17) (N := some 49) #[true, true, true, true, true, true, true, true, true, true, true, true, true, true, true, true, true, true, false, false, false, false, false, false, false, false, false, false] rfl rfl (one_of HT_.out (by kernel_rfl)) (by decide) (fun K hK => ?_)
  refine goes_ Tryz.func17 (by kernel_rfl) rfl #[.agg #[.string a1, .string a2, .slice a3 al.length a5], .agg #[.string b1, .string b2, .slice b3 bl.length b5]] (by rfl) rfl rfl (by (try simp only [List.map_toArray, List.map_cons, List.map_nil]); first | done | rfl) ?_
  with_reducible refine (broadsheetref13_Fits.calls k4 a1 a2 a3 a5 al b1 b2 b3 b5 bl fv _ (Kd.C_below HC.out.1 KW.out) HC.out.2.1 (Kd.C_below HC.out.2.2.1 KW.out) HC.out.2.2.2 HF.out.2.1).mono ?_
  rintro e_ v3 ⟨rfl, h⟩
  replace KX := Aside0.mk (KX.out.below h)
  replace KY := Aside0.mk (KY.out.below h)
  replace KW := Aside0.mk (KW.out.trans (h.mono KW.out.size))
  clear h
  refine ⟨_, rfl, ?_⟩
  refine hK.out _ _ ⟨KX.out.c0, KX.out.c1, KX.out.c2, KY.out.c0, KY.out.c1, KY.out.c2⟩ (fun hHeld => ?_)
  clear hK K
  simp only [Act.put, List.setIfInBounds_toArray, List.set_cons_zero, List.set_cons_succ]
  refine pure_ (i := 18) (N := some 50) (v := .bool true) #[true, true, true, true, true, true, true, true, true, true, true, true, true, true, true, true, true, true, true, false, false, false, false, false, false, false, false, false] rfl rfl (any_of HT_.out (by kernel_rfl)) (fun _ _ _ h => h) (Or.inl ⟨by rfl, fun w' => by go_simp⟩) rfl ?_
  simp only [Act.put, List.setIfInBounds_toArray, List.set_cons_zero, List.set_cons_succ]
  refine pure_ (i := 19) (N := some 51) (v := .bool true) #[true, true, true, true, true, true, true, true, true, true, true, true, true, true, true, true, true, true, true, true, false, false, false, false, false, false, false, false] rfl rfl (any_of HT_.out (by kernel_rfl)) (fun _ _ _ h => h) (Or.inl ⟨by rfl, fun w' => by go_simp⟩) rfl ?_
  simp only [Act.put, List.setIfInBounds_toArray, List.set_cons_zero, List.set_cons_succ]
  refine pure_ (i := 20) (N := some 52) (v := .bool true) #[true, true, true, true, true, true, true, true, true, true, true, true, true, true, true, true, true, true, true, true, true, false, false, false, false, false, false, false] rfl rfl (any_of HT_.out (by kernel_rfl)) (fun _ _ _ h => h) (Or.inl ⟨by rfl, fun w' => by go_simp⟩) rfl ?_
  simp only [Act.put, List.setIfInBounds_toArray, List.set_cons_zero, List.set_cons_succ]
  refine take_ (i := 21) (N := some 53) (v := .agg #[.string b1, .string b2, .slice b3 bl.length b5]) #[true, true, true, true, true, true, true, true, true, true, true, true, true, true, true, true, true, true, true, true, true, true, false, false, false, false, false, false] rfl rfl (take_ofW HT_.out HW_.out (by kernel_rfl)) (fun _ _ _ h => h) (Or.inl ⟨by rfl, fun w' hS => by obtain ⟨s0, s1, s2, s3, s4, s5⟩ := hS; go_simp⟩) hHeld rfl ?_
  simp only [Act.put, List.setIfInBounds_toArray, List.set_cons_zero, List.set_cons_succ]
  refine take_ (i := 23) (N := some 55) (v := .agg #[.string b1, .string b2, .slice b3 bl.length b5]) #[true, true, true, true, true, true, true, true, true, true, true, true, true, true, true, true, true, true, true, true, true, true, false, true, false, false, false, false] rfl rfl (take_ofW HT_.out HW_.out (by kernel_rfl)) (fun _ _ _ h => h) (Or.inl ⟨by rfl, fun w' hS => by obtain ⟨s0, s1, s2, s3, s4, s5⟩ := hS; go_simp⟩) hHeld rfl ?_
  simp only [Act.put, List.setIfInBounds_toArray, List.set_cons_zero, List.set_cons_succ]
  refine one_ (i := 22) (N := some 54) #[true, true, true, true, true, true, true, true, true, true, true, true, true, true, true, true, true, true, true, true, true, true, true, true, false, false, false, false] rfl rfl (one_of HT_.out (by kernel_rfl)) (by decide) (fun K hK => ?_)
  refine goes_ Tryz.func18 (by kernel_rfl) rfl #[.agg #[.string b1, .string b2, .slice b3 bl.length b5]] (by rfl) rfl rfl (by (try simp only [List.map_toArray, List.map_cons, List.map_nil]); first | done | rfl) ?_
  with_reducible refine (media_Print.calls b1 b2 b3 b5 bl pt _ (Kd.C_below HC.out.2.2.1 KW.out) HC.out.2.2.2 HF.out.2.2.1).mono ?_
  rintro e_ v4 ⟨rfl, h⟩
  replace KX := Aside0.mk (KX.out.below h)
  replace KY := Aside0.mk (KY.out.below h)
  replace KW := Aside0.mk (KW.out.trans (h.mono KW.out.size))
  clear h
  refine ⟨_, rfl, ?_⟩
  refine hK.out _ _ ⟨KX.out.c0, KX.out.c1, KX.out.c2, KY.out.c0, KY.out.c1, KY.out.c2⟩ (fun hHeld => ?_)
  clear hK K
  simp only [Act.put, List.setIfInBounds_toArray, List.set_cons_zero, List.set_cons_succ]
  refine one_ (i := 24) (N := some 56) #[true, true, true, true, true, true, true, true, true, true, true, true, true, true, true, true, true, true, true, true, true, true, true, true, true, false, false, false] rfl rfl (one_of HT_.out (by kernel_rfl)) (by decide) (fun K hK => ?_)
  refine goes_ Tryz.func19 (by kernel_rfl) rfl #[.agg #[.string b1, .string b2, .slice b3 bl.length b5]] (by rfl) rfl rfl (by (try simp only [List.map_toArray, List.map_cons, List.map_nil]); first | done | rfl) ?_
  with_reducible refine (broadsheetref13_Print.calls k5 b1 b2 b3 b5 bl pt _ (Kd.C_below HC.out.2.2.1 KW.out) HC.out.2.2.2 HF.out.2.2.2).mono ?_
  rintro e_ v5 ⟨rfl, h⟩
  replace KX := Aside0.mk (KX.out.below h)
  replace KY := Aside0.mk (KY.out.below h)
  replace KW := Aside0.mk (KW.out.trans (h.mono KW.out.size))
  clear h
  refine ⟨_, rfl, ?_⟩
  refine hK.out _ _ ⟨KX.out.c0, KX.out.c1, KX.out.c2, KY.out.c0, KY.out.c1, KY.out.c2⟩ (fun hHeld => ?_)
  clear hK K
  simp only [Act.put, List.setIfInBounds_toArray, List.set_cons_zero, List.set_cons_succ]
  refine pure_ (i := 25) (N := some 57) (v := .bool true) #[true, true, true, true, true, true, true, true, true, true, true, true, true, true, true, true, true, true, true, true, true, true, true, true, true, true, false, false] rfl rfl (any_of HT_.out (by kernel_rfl)) (fun _ _ _ h => h) (Or.inl ⟨by rfl, fun w' => by go_simp⟩) rfl ?_
  simp only [Act.put, List.setIfInBounds_toArray, List.set_cons_zero, List.set_cons_succ]
  refine pure_ (i := 26) (N := some 58) (v := .bool true) #[true, true, true, true, true, true, true, true, true, true, true, true, true, true, true, true, true, true, true, true, true, true, true, true, true, true, true, false] rfl rfl (any_of HT_.out (by kernel_rfl)) (fun _ _ _ h => h) (Or.inl ⟨by rfl, fun w' => by go_simp⟩) rfl ?_
  simp only [Act.put, List.setIfInBounds_toArray, List.set_cons_zero, List.set_cons_succ]
  refine pure_ (i := 27) (N := some 6) (v := .bool true) #[true, true, true, true, true, true, true, true, true, true, true, true, true, true, true, true, true, true, true, true, true, true, true, true, true, true, true, true] rfl rfl (any_of HT_.out (by kernel_rfl)) (fun _ _ _ h => h) (Or.inl ⟨by rfl, fun w' => by go_simp⟩) rfl ?_
  simp only [Act.put, List.setIfInBounds_toArray, List.set_cons_zero, List.set_cons_succ]
  refine done_ (done_of HT_.out (by kernel_rfl)) ?_
  clear hHeld
  go_wp2
  go_ret
  exact ⟨rfl, KW.out⟩
end Go.Proofs.YtdecjlkfpbgkgaaGreatDoor.X
