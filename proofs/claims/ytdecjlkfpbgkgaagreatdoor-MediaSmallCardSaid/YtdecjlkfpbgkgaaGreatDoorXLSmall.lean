/- The law MediaSmall, walked by hand (printed by genlawc.py). -/
import Derived.Test.YtdecjlkfpbgkgaaGreatDoorXExt
import Derived.Test.YtdecjlkfpbgkgaaGreatDoorPm6
import Derived.Test.YtdecjlkfpbgkgaaGreatDoorPm10
import Derived.Test.YtdecjlkfpbgkgaaGreatDoorPm12
namespace Go.Proofs.YtdecjlkfpbgkgaaGreatDoor.X
open Go.RowKit Go.Shelf Go.Proofs.YtdecjlkfpbgkgaaGreatDoorW.PrintWords Go.Proofs.YtdecjlkfpbgkgaaGreatDoorW.PrintLast Go.Proofs.YtdecjlkfpbgkgaaGreatDoorW.PrintMore Go.Proofs.YtdecjlkfpbgkgaaGreatDoor.F Go.Proofs.YtdecjlkfpbgkgaaGreatDoor.Pm
set_option linter.unusedVariables false
set_option linter.unusedSimpArgs false
def lsmallT : Bool × List (List Nat × List Nat) := (true, [([], []), ([0, 0], [0]), ([1], [1]), ([1], [1]), ([2, 3, 1, 1], [1, 2, 3]), ([1, 4], [1, 4]), ([5, 4], [5]), ([6], [6]), ([6], [6]), ([7, 8, 6], [6, 7, 8]), ([6, 9], [6, 9]), ([10, 6], [10]), ([11], [11]), ([11], [11]), ([12, 13, 11, 11], [11, 12, 13]), ([11], [11]), ([11], [11]), ([15, 16, 14, 11], [11, 15, 16]), ([14, 17, 11], [11, 14, 17]), ([11, 18], [11, 18]), ([19, 17], [19]), ([20], [20]), ([21, 20, 20], [20, 21]), ([20], [20]), ([23, 22, 20], [20, 23]), ([22, 24, 20], [20, 22, 24]), ([20, 25], [20, 25]), ([26, 24, 0, 1, 2, 3, 4, 5, 6, 7, 8, 9, 10, 11, 12, 13, 14, 15, 16, 17, 18, 19, 20, 21, 22, 23, 24, 25, 26], [26])])
def lsmallB : List Nat := [0, 1, 3, 3, 15, 31, 63, 127, 127, 511, 1023, 2047, 4095, 4095, 16383, 4095, 4095, 102399, 262143, 524287, 1048575, 2097151, 4194303, 2097151, 10485759, 33554431, 67108863, 134217727]
theorem lsmall_tab : rtab .any (opsOf Tryz.f8 6) = lsmallT := by kernel_rfl
theorem lsmall_bits : waitsOk lsmallT.2 lsmallB = true := by kernel_rfl
def smallP : List ByteArray := [⟨#[116, 101, 120, 116]⟩, ⟨#[47]⟩, ⟨#[104, 116, 109, 108]⟩, ⟨#[42]⟩, ⟨#[59]⟩, ⟨#[113, 61]⟩, ⟨#[48, 46, 53]⟩, ⟨#[32]⟩, ⟨#[97, 61]⟩, ⟨#[34, 98, 32, 99, 34]⟩, ⟨#[34, 92, 34, 34]⟩, ⟨#[84, 101, 120, 116, 47, 72, 84, 77, 76]⟩, ⟨#[116, 101, 120, 116, 47, 42]⟩, ⟨#[42, 47, 42]⟩, ⟨#[61]⟩, ⟨#[34]⟩]
def smallC : Array Value := #[.string ⟨#[116, 101, 120, 116]⟩, .string ⟨#[47]⟩, .string ⟨#[104, 116, 109, 108]⟩, .string ⟨#[42]⟩, .string ⟨#[59]⟩, .string ⟨#[113, 61]⟩, .string ⟨#[48, 46, 53]⟩, .string ⟨#[32]⟩, .string ⟨#[97, 61]⟩, .string ⟨#[34, 98, 32, 99, 34]⟩, .string ⟨#[34, 92, 34, 34]⟩, .string ⟨#[84, 101, 120, 116, 47, 72, 84, 77, 76]⟩, .string ⟨#[116, 101, 120, 116, 47, 42]⟩, .string ⟨#[42, 47, 42]⟩, .string ⟨#[61]⟩, .string ⟨#[34]⟩]
theorem pieces_C (w : World) : Kd.C Kd.string (w.alloc (.cells smallC 9)) (some ⟨w.heap.size, 0, none⟩) smallP.length smallP := by
  refine Kd.C_of_reads (enc := Value.string) (d := ByteArray.empty) (h1 := fun _ => rfl) ⟨rfl, by decide, fun _ => ⟨_, rfl, fun j hj => ?_⟩⟩
  rw [show (⟨w.heap.size, 0, none⟩ : Addr).add j = ⟨w.heap.size, j, none⟩ from by simp only [Addr.add]; split <;> simp_all]
  have h := World.alloc_heap_new w (.cells smallC 9)
  simp only [World.cell?, h]
  have : j < 16 := hj
  rcases j with _|_|_|_|_|_|_|_|_|_|_|_|_|_|_|_|j
  all_goals first | rfl | omega
theorem pieces_calls (k : Nat) (A0 : Option Addr) (c0 : Nat) (l0 : List Int) (A1 : Option Addr) (r : ByteArray) (w : World) (hr0 : Kd.C (Kd.int .u8) w A0 l0.length l0) (hc0 : l0.length ≤ c0) (hr1 : Kd.C Kd.string w A1 smallP.length smallP) (h : broadsheetlaw05_Pieces.f k l0 smallP = some r) :
    Calls Tryz.prog 20 #[.slice A0 l0.length c0, .slice A1 16 16] w fun e w' => e = .returned (.string r) ∧ Below w.heap.size w w' :=
  (broadsheetlaw05_Pieces.calls k A0 c0 l0 A1 16 smallP r w hr0 hc0 hr1 (by decide) h).mono fun _ _ h => ⟨h.1, Drawn0.below h.2⟩
set_option maxHeartbeats 8000000 in
set_option maxRecDepth 100000 in
theorem lsmall_calls (k k1 k2 k3 k4 k5 k6 : Nat) (A0 : Option Addr) (c0 : Nat) (l0 : List Int) (A1 : Option Addr) (c1 : Nat) (l1 : List Int) (s t : ByteArray) (a1 a2 : ByteArray) (al : List S38) (e : Int) (x1 x2 : ByteArray) (xl : List S38) (e' : Int) (fv : Bool) (pt : ByteArray) (w : World)
    (hr0 : Kd.C (Kd.int .u8) w A0 l0.length l0) (hc0 : l0.length ≤ c0) (hr1 : Kd.C (Kd.int .u8) w A1 l1.length l1) (hc1 : l1.length ≤ c1)
    (hq1 : broadsheetlaw05_Pieces.f k l0 smallP = some s) (hq2 : broadsheetlaw05_Pieces.f k1 l1 smallP = some t)
    (hg1 : media_Parse.f s = some (a1, a2, al, e)) (hg2 : broadsheetref13_Parse.f k2 s = some (a1, a2, al, e)) (hg3 : broadsheetref13_Parse.f k3 t = some (x1, x2, xl, e'))
    (hs : broadsheetref13_Same.f k6 a1 a2 al a1 a2 al = some true) (va : ∀ x ∈ al, x.f1.size ≤ 140737488355328) (vb : ∀ x ∈ xl, x.f1.size ≤ 140737488355328)
    (f1 : fitsV a1 a2 al x1 x2 xl = fv) (f2 : broadsheetref13_Fits.f k4 a1 a2 al x1 x2 xl = some fv) (g1 : media_Print.f a1 a2 al = some pt) (g2 : broadsheetref13_Print.f k5 a1 a2 al = some pt) :
    Calls Tryz.prog 8 #[.slice A0 l0.length c0, .slice A1 l1.length c1] w fun e w' => e = .returned (.bool true) ∧ Below w.heap.size w w' := by
  have hu25 := Tryz.underlying25
  have HR0 := Lib.hid hr0
  have HR1 := Lib.hid hr1
  have HC0 := Lib.hid hc0
  have HC1_ := Lib.hid hc1
  have HV := Aside0.mk (And.intro va vb)
  have HF := Aside0.mk (And.intro hs (And.intro f1 (And.intro f2 (And.intro g1 g2))))
  clear hr0 hr1 hc0 hc1 va vb hs f1 f2 g1 g2
  go_enter Tryz.func8, Tryz.ntmps8
  go_wp2_with fail
  generalize hW : World.alloc w _ = w1
  have HP := pieces_C w
  rw [show w.alloc (.cells smallC 9) = w1 from hW] at HP
  have hb1 : Below w.heap.size w w1 := by rw [← hW]; exact (Below.refl _ _).alloc (Nat.le_refl _) _
  clear hW
  replace HP := Lib.hid HP
  have hz : w.heap.size ≤ w1.heap.size := hb1.size
  generalize hgp : w.heap.size = gp at HP ⊢
  with_reducible refine (pieces_calls k A0 c0 l0 (some ⟨gp, 0, none⟩) s w1 (Kd.C_below HR0.out hb1) HC0.out HP.out hq1).mono ?_
  rintro x p1 ⟨rfl, h2⟩
  have hb2 : Below w.heap.size w p1 := hb1.trans (h2.mono hz)
  have HP1 := Lib.hid (Kd.C_below HP.out h2)
  clear h2 HP
  go_wp2_with fail
  with_reducible refine (pieces_calls k1 A1 c1 l1 (some ⟨gp, 0, none⟩) t p1 (Kd.C_below HR1.out hb2) HC1_.out HP1.out hq2).mono ?_
  rintro x p2 ⟨rfl, h2⟩
  have HB3 := Aside0.mk (hb2.trans (h2.mono hb2.size))
  clear h2 HP1 hb1 hb2 hz
  go_wp2_with fail
  refine (media_Parse.calls s a1 a2 al e p2 hg1).mono ?_
  rintro x w3 ⟨v3, rfl, r3, h3⟩
  obtain ⟨a3, a5, rfl, hca, hCA⟩ := Kd.R_reads r3
  have HB4 := Aside0.mk (HB3.out.trans (h3.mono HB3.out.size))
  have HLA := Aside0.mk hca
  have HC3 := Aside0.mk hCA
  clear r3 h3 HB3 hca hCA
  go_wp2_with fail
  have al3 : Below w3.heap.size w3 (w3.alloc (.cells #[.string a1, .string a2, .slice a3 al.length a5] 25)) := (Below.refl _ _).alloc (Nat.le_refl _) _
  have KA := Aside0.mk (Tri.new w3 25 (.string a1) (.string a2) (.slice a3 al.length a5))
  replace HC3 := Aside0.mk (Kd.C_below HC3.out al3)
  replace HB4 := Aside0.mk (HB4.out.trans (al3.mono HB4.out.size))
  clear al3
  generalize w3.alloc (.cells #[.string a1, .string a2, .slice a3 al.length a5] 25) = W3 at KA HC3 HB4 ⊢
  generalize w3.heap.size = na at KA ⊢
  refine (broadsheetref13_Parse.calls k2 s a1 a2 al e W3 hg2).mono ?_
  rintro x w4 ⟨v4, rfl, r4, h4⟩
  obtain ⟨b3, b5, rfl, hcb, hCB⟩ := Kd.R_reads r4
  have HB5 := Aside0.mk (HB4.out.trans (h4.mono HB4.out.size))
  have HLB := Aside0.mk hcb
  have HC4 := Aside0.mk hCB
  replace KA := Aside0.mk (KA.out.below h4)
  replace HC3 := Aside0.mk (Kd.C_below HC3.out h4)
  clear r4 h4 HB4 hcb hCB
  go_wp2_with fail
  have al4 : Below w4.heap.size w4 (w4.alloc (.cells #[.string a1, .string a2, .slice b3 al.length b5] 25)) := (Below.refl _ _).alloc (Nat.le_refl _) _
  have KB := Aside0.mk (Tri.new w4 25 (.string a1) (.string a2) (.slice b3 al.length b5))
  replace KA := Aside0.mk (KA.out.below al4)
  replace HC3 := Aside0.mk (Kd.C_below HC3.out al4)
  replace HC4 := Aside0.mk (Kd.C_below HC4.out al4)
  replace HB5 := Aside0.mk (HB5.out.trans (al4.mono HB5.out.size))
  clear al4
  generalize w4.alloc (.cells #[.string a1, .string a2, .slice b3 al.length b5] 25) = W4 at KA KB HC3 HC4 HB5 ⊢
  generalize w4.heap.size = nb at KB ⊢
  refine (broadsheetref13_Parse.calls k3 t x1 x2 xl e' W4 hg3).mono ?_
  rintro x w5 ⟨v5, rfl, r5, h5⟩
  obtain ⟨x3, x5, rfl, hcx, hCX⟩ := Kd.R_reads r5
  have HB6 := Aside0.mk (HB5.out.trans (h5.mono HB5.out.size))
  have HLX := Aside0.mk hcx
  have HC5 := Aside0.mk hCX
  replace KA := Aside0.mk (KA.out.below h5)
  replace KB := Aside0.mk (KB.out.below h5)
  replace HC3 := Aside0.mk (Kd.C_below HC3.out h5)
  replace HC4 := Aside0.mk (Kd.C_below HC4.out h5)
  clear r5 h5 HB5 hcx hCX
  go_wp2_with fail
  have al5 : Below w5.heap.size w5 (w5.alloc (.cells #[.string x1, .string x2, .slice x3 xl.length x5] 25)) := (Below.refl _ _).alloc (Nat.le_refl _) _
  have KX := Aside0.mk (Tri.new w5 25 (.string x1) (.string x2) (.slice x3 xl.length x5))
  replace KA := Aside0.mk (KA.out.below al5)
  replace KB := Aside0.mk (KB.out.below al5)
  have HC1 := Aside0.mk (Kd.C_below HC3.out al5)
  have HC2 := Aside0.mk (Kd.C_below HC4.out al5)
  replace HC3 := Aside0.mk (Kd.C_below HC5.out al5)
  have HBW := Aside0.mk (HB6.out.trans (al5.mono HB6.out.size))
  have HL := Aside0.mk (And.intro HLA.out (And.intro HLB.out HLX.out))
  clear al5 HC4 HC5 HB6 HLA HLB HLX
  generalize w5.alloc (.cells #[.string x1, .string x2, .slice x3 xl.length x5] 25) = W6 at KA KB KX HC1 HC2 HC3 HBW ⊢
  generalize w5.heap.size = nx at KX ⊢
  refine start_ (n := 28) (S := fun w' => w'.cell? ⟨na, 0, none⟩ = some (.string a1) ∧ w'.cell? ⟨na, 1, none⟩ = some (.string a2) ∧ w'.cell? ⟨na, 2, none⟩ = some (.slice a3 al.length a5) ∧ w'.cell? ⟨nb, 0, none⟩ = some (.string a1) ∧ w'.cell? ⟨nb, 1, none⟩ = some (.string a2) ∧ w'.cell? ⟨nb, 2, none⟩ = some (.slice b3 al.length b5) ∧ w'.cell? ⟨nx, 0, none⟩ = some (.string x1) ∧ w'.cell? ⟨nx, 1, none⟩ = some (.string x2) ∧ w'.cell? ⟨nx, 2, none⟩ = some (.slice x3 xl.length x5)) (ds := []) #[false, false, false, false, false, false, false, false, false, false, false, false, false, false, false, false, false, false, false, false, false, false, false, false, false, false, false, false] (by kernel_rfl) rfl rfl ⟨KA.out.c0, KA.out.c1, KA.out.c2, KB.out.c0, KB.out.c1, KB.out.c2, KX.out.c0, KX.out.c1, KX.out.c2⟩ (fun hHeld => ?_)
  refine with_tabW lsmall_tab lsmall_bits (fun HT_ HW_ => ?_)
  have hd : Below W6.heap.size W6 W6.drew := (Below.refl _ _).drew
  replace KA := Aside0.mk (KA.out.below hd)
  replace KB := Aside0.mk (KB.out.below hd)
  replace KX := Aside0.mk (KX.out.below hd)
  have HCA := Aside0.mk (show ∀ v : World, Below W6.heap.size W6 v → Kd.C k38 v a3 al.length al ∧ Kd.C k38 v b3 al.length al ∧ Kd.C k38 v x3 xl.length xl from fun v hv => ⟨Kd.C_below HC1.out hv, Kd.C_below HC2.out hv, Kd.C_below HC3.out hv⟩)
  have KV := Aside0.mk hd
  clear HC1 HC2 HC3 hd
  generalize World.drew _ = v0 at KA KB KX KV hHeld ⊢
  refine one_ (i := 0) (N := some 36) #[true, false, false, false, false, false, false, false, false, false, false, false, false, false, false, false, false, false, false, false, false, false, false, false, false, false, false, false] rfl rfl (one_of HT_.out (by kernel_rfl)) (by decide) (fun K hK => ?_)
  refine goes_ Tryz.func9 (by kernel_rfl) rfl #[] (by rfl) rfl rfl (by (try simp only [List.map_toArray, List.map_cons, List.map_nil]); first | done | rfl) ?_
  with_reducible refine (awake_calls _).mono ?_
  rintro e_ v1 ⟨rfl, h⟩
  replace KA := Aside0.mk (KA.out.below h)
  replace KB := Aside0.mk (KB.out.below h)
  replace KX := Aside0.mk (KX.out.below h)
  replace KV := Aside0.mk (KV.out.trans (h.mono KV.out.size))
  clear h
  refine ⟨_, rfl, ?_⟩
  refine hK.out _ _ ⟨KA.out.c0, KA.out.c1, KA.out.c2, KB.out.c0, KB.out.c1, KB.out.c2, KX.out.c0, KX.out.c1, KX.out.c2⟩ (fun hHeld => ?_)
  clear hK K
  simp only [Act.put, List.setIfInBounds_toArray, List.set_cons_zero, List.set_cons_succ]
  refine pure_ (i := 1) (N := some 37) (v := .bool true) #[true, true, false, false, false, false, false, false, false, false, false, false, false, false, false, false, false, false, false, false, false, false, false, false, false, false, false, false] rfl rfl (any_of HT_.out (by kernel_rfl)) (fun _ _ _ h => h) (Or.inl ⟨by rfl, fun w' => by go_simp⟩) rfl ?_
  simp only [Act.put, List.setIfInBounds_toArray, List.set_cons_zero, List.set_cons_succ]
  refine take_ (i := 2) (N := some 38) (v := .agg #[.string a1, .string a2, .slice a3 al.length a5]) #[true, true, true, false, false, false, false, false, false, false, false, false, false, false, false, false, false, false, false, false, false, false, false, false, false, false, false, false] rfl rfl (take_ofW HT_.out HW_.out (by kernel_rfl)) (fun _ _ _ h => h) (Or.inl ⟨by rfl, fun w' hS => by obtain ⟨s0, s1, s2, s3, s4, s5, s6, s7, s8⟩ := hS; go_simp⟩) hHeld rfl ?_
  simp only [Act.put, List.setIfInBounds_toArray, List.set_cons_zero, List.set_cons_succ]
  refine take_ (i := 3) (N := some 39) (v := .agg #[.string a1, .string a2, .slice b3 al.length b5]) #[true, true, true, true, false, false, false, false, false, false, false, false, false, false, false, false, false, false, false, false, false, false, false, false, false, false, false, false] rfl rfl (take_ofW HT_.out HW_.out (by kernel_rfl)) (fun _ _ _ h => h) (Or.inl ⟨by rfl, fun w' hS => by obtain ⟨s0, s1, s2, s3, s4, s5, s6, s7, s8⟩ := hS; go_simp⟩) hHeld rfl ?_
  simp only [Act.put, List.setIfInBounds_toArray, List.set_cons_zero, List.set_cons_succ]
  refine one_ (i := 4) (N := some 40) #[true, true, true, true, true, false, false, false, false, false, false, false, false, false, false, false, false, false, false, false, false, false, false, false, false, false, false, false] rfl rfl (one_of HT_.out (by kernel_rfl)) (by decide) (fun K hK => ?_)
  refine goes_ Tryz.func12 (by kernel_rfl) rfl #[.agg #[.string a1, .string a2, .slice a3 al.length a5], .agg #[.string a1, .string a2, .slice b3 al.length b5]] (by rfl) rfl rfl (by (try simp only [List.map_toArray, List.map_cons, List.map_nil]); first | done | rfl) ?_
  with_reducible refine (broadsheetref13_Same.calls k6 a1 a2 a3 a5 al a1 a2 b3 b5 al true _ (HCA.out _ KV.out).1 HL.out.1 (HCA.out _ KV.out).2.1 HL.out.2.1 HF.out.1).mono ?_
  rintro e_ v2 ⟨rfl, h⟩
  replace KA := Aside0.mk (KA.out.below h)
  replace KB := Aside0.mk (KB.out.below h)
  replace KX := Aside0.mk (KX.out.below h)
  replace KV := Aside0.mk (KV.out.trans (h.mono KV.out.size))
  clear h
  refine ⟨_, rfl, ?_⟩
  refine hK.out _ _ ⟨KA.out.c0, KA.out.c1, KA.out.c2, KB.out.c0, KB.out.c1, KB.out.c2, KX.out.c0, KX.out.c1, KX.out.c2⟩ (fun hHeld => ?_)
  clear hK K
  simp only [Act.put, List.setIfInBounds_toArray, List.set_cons_zero, List.set_cons_succ]
  refine pure_ (i := 5) (N := some 41) (v := .bool true) #[true, true, true, true, true, true, false, false, false, false, false, false, false, false, false, false, false, false, false, false, false, false, false, false, false, false, false, false] rfl rfl (any_of HT_.out (by kernel_rfl)) (fun _ _ _ h => h) (Or.inl ⟨by rfl, fun w' => by go_simp⟩) rfl ?_
  simp only [Act.put, List.setIfInBounds_toArray, List.set_cons_zero, List.set_cons_succ]
  refine pure_ (i := 6) (N := some 42) (v := .bool true) #[true, true, true, true, true, true, true, false, false, false, false, false, false, false, false, false, false, false, false, false, false, false, false, false, false, false, false, false] rfl rfl (any_of HT_.out (by kernel_rfl)) (fun _ _ _ h => h) (Or.inl ⟨by rfl, fun w' => by go_simp⟩) rfl ?_
  simp only [Act.put, List.setIfInBounds_toArray, List.set_cons_zero, List.set_cons_succ]
  refine pure_ (i := 7) (N := some 43) (v := .int .i64 e) #[true, true, true, true, true, true, true, true, false, false, false, false, false, false, false, false, false, false, false, false, false, false, false, false, false, false, false, false] rfl rfl (any_of HT_.out (by kernel_rfl)) (fun _ _ _ h => h) (Or.inl ⟨by rfl, fun w' => by go_simp⟩) rfl ?_
  simp only [Act.put, List.setIfInBounds_toArray, List.set_cons_zero, List.set_cons_succ]
  refine pure_ (i := 8) (N := some 44) (v := .int .i64 e) #[true, true, true, true, true, true, true, true, true, false, false, false, false, false, false, false, false, false, false, false, false, false, false, false, false, false, false, false] rfl rfl (any_of HT_.out (by kernel_rfl)) (fun _ _ _ h => h) (Or.inl ⟨by rfl, fun w' => by go_simp⟩) rfl ?_
  simp only [Act.put, List.setIfInBounds_toArray, List.set_cons_zero, List.set_cons_succ]
  refine pure_ (i := 9) (N := some 45) (v := .bool true) #[true, true, true, true, true, true, true, true, true, true, false, false, false, false, false, false, false, false, false, false, false, false, false, false, false, false, false, false] rfl rfl (any_of HT_.out (by kernel_rfl)) (fun _ _ _ h => h) (Or.inl ⟨by rfl, fun w' => by go_simp⟩) rfl ?_
  simp only [Act.put, List.setIfInBounds_toArray, List.set_cons_zero, List.set_cons_succ]
  refine pure_ (i := 10) (N := some 46) (v := .bool true) #[true, true, true, true, true, true, true, true, true, true, true, false, false, false, false, false, false, false, false, false, false, false, false, false, false, false, false, false] rfl rfl (any_of HT_.out (by kernel_rfl)) (fun _ _ _ h => h) (Or.inl ⟨by rfl, fun w' => by go_simp⟩) rfl ?_
  simp only [Act.put, List.setIfInBounds_toArray, List.set_cons_zero, List.set_cons_succ]
  refine pure_ (i := 11) (N := some 47) (v := .bool true) #[true, true, true, true, true, true, true, true, true, true, true, true, false, false, false, false, false, false, false, false, false, false, false, false, false, false, false, false] rfl rfl (any_of HT_.out (by kernel_rfl)) (fun _ _ _ h => h) (Or.inl ⟨by rfl, fun w' => by go_simp⟩) rfl ?_
  simp only [Act.put, List.setIfInBounds_toArray, List.set_cons_zero, List.set_cons_succ]
  refine take_ (i := 12) (N := some 48) (v := .agg #[.string a1, .string a2, .slice b3 al.length b5]) #[true, true, true, true, true, true, true, true, true, true, true, true, true, false, false, false, false, false, false, false, false, false, false, false, false, false, false, false] rfl rfl (take_ofW HT_.out HW_.out (by kernel_rfl)) (fun _ _ _ h => h) (Or.inl ⟨by rfl, fun w' hS => by obtain ⟨s0, s1, s2, s3, s4, s5, s6, s7, s8⟩ := hS; go_simp⟩) hHeld rfl ?_
  simp only [Act.put, List.setIfInBounds_toArray, List.set_cons_zero, List.set_cons_succ]
  refine take_ (i := 13) (N := some 49) (v := .agg #[.string x1, .string x2, .slice x3 xl.length x5]) #[true, true, true, true, true, true, true, true, true, true, true, true, true, true, false, false, false, false, false, false, false, false, false, false, false, false, false, false] rfl rfl (take_ofW HT_.out HW_.out (by kernel_rfl)) (fun _ _ _ h => h) (Or.inl ⟨by rfl, fun w' hS => by obtain ⟨s0, s1, s2, s3, s4, s5, s6, s7, s8⟩ := hS; go_simp⟩) hHeld rfl ?_
  simp only [Act.put, List.setIfInBounds_toArray, List.set_cons_zero, List.set_cons_succ]
  refine take_ (i := 15) (N := some 51) (v := .agg #[.string a1, .string a2, .slice b3 al.length b5]) #[true, true, true, true, true, true, true, true, true, true, true, true, true, true, false, true, false, false, false, false, false, false, false, false, false, false, false, false] rfl rfl (take_ofW HT_.out HW_.out (by kernel_rfl)) (fun _ _ _ h => h) (Or.inl ⟨by rfl, fun w' hS => by obtain ⟨s0, s1, s2, s3, s4, s5, s6, s7, s8⟩ := hS; go_simp⟩) hHeld rfl ?_
  simp only [Act.put, List.setIfInBounds_toArray, List.set_cons_zero, List.set_cons_succ]
  refine take_ (i := 16) (N := some 52) (v := .agg #[.string x1, .string x2, .slice x3 xl.length x5]) #[true, true, true, true, true, true, true, true, true, true, true, true, true, true, false, true, true, false, false, false, false, false, false, false, false, false, false, false] rfl rfl (take_ofW HT_.out HW_.out (by kernel_rfl)) (fun _ _ _ h => h) (Or.inl ⟨by rfl, fun w' hS => by obtain ⟨s0, s1, s2, s3, s4, s5, s6, s7, s8⟩ := hS; go_simp⟩) hHeld rfl ?_
  simp only [Act.put, List.setIfInBounds_toArray, List.set_cons_zero, List.set_cons_succ]
  refine one_ (i := 14) (N := some 50) #[true, true, true, true, true, true, true, true, true, true, true, true, true, true, true, true, true, false, false, false, false, false, false, false, false, false, false, false] rfl rfl (one_of HT_.out (by kernel_rfl)) (by decide) (fun K hK => ?_)
  refine goes_ Tryz.func16 (by kernel_rfl) rfl #[.agg #[.string a1, .string a2, .slice b3 al.length b5], .agg #[.string x1, .string x2, .slice x3 xl.length x5]] (by rfl) rfl rfl (by (try simp only [List.map_toArray, List.map_cons, List.map_nil]); first | done | rfl) ?_
  with_reducible refine (fits_calls a1 a2 b3 b5 al x1 x2 x3 x5 xl _ (HCA.out _ KV.out).2.1 HL.out.2.1 (HCA.out _ KV.out).2.2 HL.out.2.2 HV.out.1 HV.out.2 fv HF.out.2.1).mono ?_
  rintro e_ v3 ⟨rfl, h⟩
  replace KA := Aside0.mk (KA.out.below h)
  replace KB := Aside0.mk (KB.out.below h)
  replace KX := Aside0.mk (KX.out.below h)
  replace KV := Aside0.mk (KV.out.trans (h.mono KV.out.size))
  clear h
  refine ⟨_, rfl, ?_⟩
  refine hK.out _ _ ⟨KA.out.c0, KA.out.c1, KA.out.c2, KB.out.c0, KB.out.c1, KB.out.c2, KX.out.c0, KX.out.c1, KX.out.c2⟩ (fun hHeld => ?_)
  clear hK K
  simp only [Act.put, List.setIfInBounds_toArray, List.set_cons_zero, List.set_cons_succ]
  refine one_ (i := 17) (N := some 53) #[true, true, true, true, true, true, true, true, true, true, true, true, true, true, true, true, true, true, false, false, false, false, false, false, false, false, false, false] rfl rfl (one_of HT_.out (by kernel_rfl)) (by decide) (fun K hK => ?_)
  refine goes_ Tryz.func17 (by kernel_rfl) rfl #[.agg #[.string a1, .string a2, .slice b3 al.length b5], .agg #[.string x1, .string x2, .slice x3 xl.length x5]] (by rfl) rfl rfl (by (try simp only [List.map_toArray, List.map_cons, List.map_nil]); first | done | rfl) ?_
  with_reducible refine (broadsheetref13_Fits.calls k4 a1 a2 b3 b5 al x1 x2 x3 x5 xl fv _ (HCA.out _ KV.out).2.1 HL.out.2.1 (HCA.out _ KV.out).2.2 HL.out.2.2 HF.out.2.2.1).mono ?_
  rintro e_ v4 ⟨rfl, h⟩
  replace KA := Aside0.mk (KA.out.below h)
  replace KB := Aside0.mk (KB.out.below h)
  replace KX := Aside0.mk (KX.out.below h)
  replace KV := Aside0.mk (KV.out.trans (h.mono KV.out.size))
  clear h
  refine ⟨_, rfl, ?_⟩
  refine hK.out _ _ ⟨KA.out.c0, KA.out.c1, KA.out.c2, KB.out.c0, KB.out.c1, KB.out.c2, KX.out.c0, KX.out.c1, KX.out.c2⟩ (fun hHeld => ?_)
  clear hK K
  simp only [Act.put, List.setIfInBounds_toArray, List.set_cons_zero, List.set_cons_succ]
  refine pure_ (i := 18) (N := some 54) (v := .bool true) #[true, true, true, true, true, true, true, true, true, true, true, true, true, true, true, true, true, true, true, false, false, false, false, false, false, false, false, false] rfl rfl (any_of HT_.out (by kernel_rfl)) (fun _ _ _ h => h) (Or.inl ⟨by rfl, fun w' => by go_simp⟩) rfl ?_
  simp only [Act.put, List.setIfInBounds_toArray, List.set_cons_zero, List.set_cons_succ]
  refine pure_ (i := 19) (N := some 55) (v := .bool true) #[true, true, true, true, true, true, true, true, true, true, true, true, true, true, true, true, true, true, true, true, false, false, false, false, false, false, false, false] rfl rfl (any_of HT_.out (by kernel_rfl)) (fun _ _ _ h => h) (Or.inl ⟨by rfl, fun w' => by go_simp⟩) rfl ?_
  simp only [Act.put, List.setIfInBounds_toArray, List.set_cons_zero, List.set_cons_succ]
  refine pure_ (i := 20) (N := some 56) (v := .bool true) #[true, true, true, true, true, true, true, true, true, true, true, true, true, true, true, true, true, true, true, true, true, false, false, false, false, false, false, false] rfl rfl (any_of HT_.out (by kernel_rfl)) (fun _ _ _ h => h) (Or.inl ⟨by rfl, fun w' => by go_simp⟩) rfl ?_
  simp only [Act.put, List.setIfInBounds_toArray, List.set_cons_zero, List.set_cons_succ]
  refine take_ (i := 21) (N := some 57) (v := .agg #[.string a1, .string a2, .slice b3 al.length b5]) #[true, true, true, true, true, true, true, true, true, true, true, true, true, true, true, true, true, true, true, true, true, true, false, false, false, false, false, false] rfl rfl (take_ofW HT_.out HW_.out (by kernel_rfl)) (fun _ _ _ h => h) (Or.inl ⟨by rfl, fun w' hS => by obtain ⟨s0, s1, s2, s3, s4, s5, s6, s7, s8⟩ := hS; go_simp⟩) hHeld rfl ?_
  simp only [Act.put, List.setIfInBounds_toArray, List.set_cons_zero, List.set_cons_succ]
  refine take_ (i := 23) (N := some 59) (v := .agg #[.string a1, .string a2, .slice b3 al.length b5]) #[true, true, true, true, true, true, true, true, true, true, true, true, true, true, true, true, true, true, true, true, true, true, false, true, false, false, false, false] rfl rfl (take_ofW HT_.out HW_.out (by kernel_rfl)) (fun _ _ _ h => h) (Or.inl ⟨by rfl, fun w' hS => by obtain ⟨s0, s1, s2, s3, s4, s5, s6, s7, s8⟩ := hS; go_simp⟩) hHeld rfl ?_
  simp only [Act.put, List.setIfInBounds_toArray, List.set_cons_zero, List.set_cons_succ]
  refine one_ (i := 22) (N := some 58) #[true, true, true, true, true, true, true, true, true, true, true, true, true, true, true, true, true, true, true, true, true, true, true, true, false, false, false, false] rfl rfl (one_of HT_.out (by kernel_rfl)) (by decide) (fun K hK => ?_)
  refine goes_ Tryz.func18 (by kernel_rfl) rfl #[.agg #[.string a1, .string a2, .slice b3 al.length b5]] (by rfl) rfl rfl (by (try simp only [List.map_toArray, List.map_cons, List.map_nil]); first | done | rfl) ?_
  with_reducible refine (media_Print.calls a1 a2 b3 b5 al pt _ (HCA.out _ KV.out).2.1 HL.out.2.1 HF.out.2.2.2.1).mono ?_
  rintro e_ v5 ⟨rfl, h⟩
  replace KA := Aside0.mk (KA.out.below h)
  replace KB := Aside0.mk (KB.out.below h)
  replace KX := Aside0.mk (KX.out.below h)
  replace KV := Aside0.mk (KV.out.trans (h.mono KV.out.size))
  clear h
  refine ⟨_, rfl, ?_⟩
  refine hK.out _ _ ⟨KA.out.c0, KA.out.c1, KA.out.c2, KB.out.c0, KB.out.c1, KB.out.c2, KX.out.c0, KX.out.c1, KX.out.c2⟩ (fun hHeld => ?_)
  clear hK K
  simp only [Act.put, List.setIfInBounds_toArray, List.set_cons_zero, List.set_cons_succ]
  refine one_ (i := 24) (N := some 60) #[true, true, true, true, true, true, true, true, true, true, true, true, true, true, true, true, true, true, true, true, true, true, true, true, true, false, false, false] rfl rfl (one_of HT_.out (by kernel_rfl)) (by decide) (fun K hK => ?_)
  refine goes_ Tryz.func19 (by kernel_rfl) rfl #[.agg #[.string a1, .string a2, .slice b3 al.length b5]] (by rfl) rfl rfl (by (try simp only [List.map_toArray, List.map_cons, List.map_nil]); first | done | rfl) ?_
  with_reducible refine (broadsheetref13_Print.calls k5 a1 a2 b3 b5 al pt _ (HCA.out _ KV.out).2.1 HL.out.2.1 HF.out.2.2.2.2).mono ?_
  rintro e_ v6 ⟨rfl, h⟩
  replace KA := Aside0.mk (KA.out.below h)
  replace KB := Aside0.mk (KB.out.below h)
  replace KX := Aside0.mk (KX.out.below h)
  replace KV := Aside0.mk (KV.out.trans (h.mono KV.out.size))
  clear h
  refine ⟨_, rfl, ?_⟩
  refine hK.out _ _ ⟨KA.out.c0, KA.out.c1, KA.out.c2, KB.out.c0, KB.out.c1, KB.out.c2, KX.out.c0, KX.out.c1, KX.out.c2⟩ (fun hHeld => ?_)
  clear hK K
  simp only [Act.put, List.setIfInBounds_toArray, List.set_cons_zero, List.set_cons_succ]
  refine pure_ (i := 25) (N := some 61) (v := .bool true) #[true, true, true, true, true, true, true, true, true, true, true, true, true, true, true, true, true, true, true, true, true, true, true, true, true, true, false, false] rfl rfl (any_of HT_.out (by kernel_rfl)) (fun _ _ _ h => h) (Or.inl ⟨by rfl, fun w' => by go_simp⟩) rfl ?_
  simp only [Act.put, List.setIfInBounds_toArray, List.set_cons_zero, List.set_cons_succ]
  refine pure_ (i := 26) (N := some 62) (v := .bool true) #[true, true, true, true, true, true, true, true, true, true, true, true, true, true, true, true, true, true, true, true, true, true, true, true, true, true, true, false] rfl rfl (any_of HT_.out (by kernel_rfl)) (fun _ _ _ h => h) (Or.inl ⟨by rfl, fun w' => by go_simp⟩) rfl ?_
  simp only [Act.put, List.setIfInBounds_toArray, List.set_cons_zero, List.set_cons_succ]
  refine pure_ (i := 27) (N := some 4) (v := .bool true) #[true, true, true, true, true, true, true, true, true, true, true, true, true, true, true, true, true, true, true, true, true, true, true, true, true, true, true, true] rfl rfl (any_of HT_.out (by kernel_rfl)) (fun _ _ _ h => h) (Or.inl ⟨by rfl, fun w' => by go_simp⟩) rfl ?_
  simp only [Act.put, List.setIfInBounds_toArray, List.set_cons_zero, List.set_cons_succ]
  refine done_ (done_of HT_.out (by kernel_rfl)) ?_
  clear hHeld
  have HB9 := Aside0.mk (HBW.out.trans (KV.out.mono HBW.out.size))
  go_wp2
  go_ret
  exact ⟨rfl, HB9.out⟩
end Go.Proofs.YtdecjlkfpbgkgaaGreatDoor.X
