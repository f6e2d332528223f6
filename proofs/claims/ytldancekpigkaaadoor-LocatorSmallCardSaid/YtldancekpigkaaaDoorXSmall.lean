/- The law LocatorSmall, walked by hand (printed by law3.py). -/
import Derived.Test.YtldancekpigkaaaDoorXAwake
import Derived.Test.YtldancekpigkaaaDoorXRefF
import Derived.Test.YtldancekpigkaaaDoorXSplit
import Derived.Test.YtldancekpigkaaaDoorXParsR
import Derived.Test.YtldancekpigkaaaDoorPl9
import Derived.Test.YtldancekpigkaaaDoorPl10
import Derived.BigQuiet
import Derived.Deep.QuietTactic
namespace Go.Proofs.YtldancekpigkaaaDoor.X
open Go.RowKit Go.Shelf Go.Proofs.YtldancekpigkaaaDoorW.PrintWords Go.Proofs.YtldancekpigkaaaDoorW.PrintLast Go.Proofs.YtldancekpigkaaaDoorW.PrintMore Go.Proofs.YtldancekpigkaaaDoor.Pl
set_option linter.unusedVariables false
set_option linter.unusedSimpArgs false
attribute [local go_sem high] eqU
def smallT6 : Bool × List (List Nat × List Nat) := (true, [([], []), ([0, 0], [0]), ([1], [1]), ([1], [1]), ([2, 3, 1], [1, 2, 3]), ([1, 4], [1, 4]), ([5, 1], [5]), ([6], [6]), ([6], [6]), ([7, 8, 6], [6, 7, 8]), ([6, 9], [6, 9]), ([10, 6], [10]), ([11], [11]), ([12, 11, 11], [11, 12]), ([11], [11]), ([13, 14, 11], [11, 13, 14]), ([11, 15], [11, 15]), ([16, 13], [16]), ([17], [17]), ([18, 17, 17], [17, 18]), ([17], [17]), ([20, 19, 17], [17, 20]), ([19, 21, 17], [17, 19, 21]), ([17, 22], [17, 22]), ([23, 21], [23]), ([24], [24]), ([24], [24]), ([25, 26, 24, 24], [24, 25, 26]), ([24], [24]), ([24], [24]), ([28, 29, 27, 24], [24, 28, 29]), ([27, 30, 24], [24, 27, 30]), ([24, 31], [24, 31]), ([32, 30, 0, 1, 2, 3, 4, 5, 6, 7, 8, 9, 10, 11, 12, 13, 14, 15, 16, 17, 18, 19, 20, 21, 22, 23, 24, 25, 26, 27, 28, 29, 30, 31, 32], [32])])
def smallB6 : List Nat := [0, 1, 3, 3, 15, 31, 63, 127, 127, 511, 1023, 2047, 4095, 8191, 4095, 32767, 65535, 131071, 262143, 524287, 262143, 2097151, 4194303, 8388607, 16777215, 33554431, 33554431, 134217727, 33554431, 33554431, 1073741823, 2147483647, 4294967295, 8589934591]
theorem small_tab6 : rtab .any (opsOf Tryd.f9 6) = smallT6 := by kernel_rfl
theorem small_bits6 : waitsOk smallT6.2 smallB6 = true := by kernel_rfl
def smallP : List ByteArray := [⟨#[47]⟩, ⟨#[97]⟩, ⟨#[46]⟩, ⟨#[46, 46]⟩, ⟨#[47, 46, 46]⟩, ⟨#[47, 47, 104]⟩, ⟨#[63]⟩, ⟨#[35]⟩, ⟨#[58]⟩, ⟨#[37, 52, 49]⟩, ⟨#[98, 58]⟩, ⟨#[47, 46]⟩, ⟨#[195, 169]⟩, ⟨#[37]⟩, ⟨#[91]⟩, ⟨#[120, 47]⟩]
def smallC : Array Value := #[.string ⟨#[47]⟩, .string ⟨#[97]⟩, .string ⟨#[46]⟩, .string ⟨#[46, 46]⟩, .string ⟨#[47, 46, 46]⟩, .string ⟨#[47, 47, 104]⟩, .string ⟨#[63]⟩, .string ⟨#[35]⟩, .string ⟨#[58]⟩, .string ⟨#[37, 52, 49]⟩, .string ⟨#[98, 58]⟩, .string ⟨#[47, 46]⟩, .string ⟨#[195, 169]⟩, .string ⟨#[37]⟩, .string ⟨#[91]⟩, .string ⟨#[120, 47]⟩]
theorem uri9 {w : World} {g : Nat} {a0 a1 a2 a3 a4 : ByteArray} {a5 a6 a7 a8 : Bool} (k : w.heap[g]? = some (.cells (uriC a0 a1 a2 a3 a4 a5 a6 a7 a8) 24)) :
    w.cell? ⟨g, 0, none⟩ = some (.string a0) ∧ w.cell? ⟨g, 1, none⟩ = some (.string a1) ∧ w.cell? ⟨g, 2, none⟩ = some (.string a2) ∧ w.cell? ⟨g, 3, none⟩ = some (.string a3) ∧ w.cell? ⟨g, 4, none⟩ = some (.string a4) ∧ w.cell? ⟨g, 5, none⟩ = some (.bool a5) ∧ w.cell? ⟨g, 6, none⟩ = some (.bool a6) ∧ w.cell? ⟨g, 7, none⟩ = some (.bool a7) ∧ w.cell? ⟨g, 8, none⟩ = some (.bool a8) := by
  have h := blk_cell k
  exact ⟨h 0, h 1, h 2, h 3, h 4, h 5, h 6, h 7, h 8⟩
theorem pieces_C (w : World) : Kd.C Kd.string (w.alloc (.cells smallC 9)) (some ⟨w.heap.size, 0, none⟩) smallP.length smallP := by
  refine Kd.C_of_reads (enc := Value.string) (d := ByteArray.empty) (h1 := fun _ => rfl) ⟨rfl, by decide, fun _ => ⟨_, rfl, fun j hj => ?_⟩⟩
  rw [show (⟨w.heap.size, 0, none⟩ : Addr).add j = ⟨w.heap.size, j, none⟩ from by simp only [Addr.add]; split <;> simp_all]
  refine (blk_cell (blk_new w (.cells smallC 9)) j).trans ?_
  have : j < 16 := hj
  rcases j with _|_|_|_|_|_|_|_|_|_|_|_|_|_|_|_|j
  all_goals first | rfl | omega
theorem pieces_calls (k : Nat) (A0 : Option Addr) (c0 : Nat) (l0 : List Int) (A1 : Option Addr) (r : ByteArray) (w : World) (hr0 : Kd.C (Kd.int .u8) w A0 l0.length l0) (hc0 : l0.length ≤ c0) (hr1 : Kd.C Kd.string w A1 smallP.length smallP) (h : broadsheetlaw05_Pieces.f k l0 smallP = some r) :
    Calls Tryd.prog 21 #[.slice A0 l0.length c0, .slice A1 16 16] w fun e w' => e = .returned (.string r) ∧ Below w.heap.size w w' :=
  (broadsheetlaw05_Pieces.calls k A0 c0 l0 A1 16 smallP r w hr0 hc0 hr1 (by decide) h).mono fun _ _ h => ⟨h.1, Drawn0.below h.2⟩
set_option maxHeartbeats 8000000 in
set_option maxRecDepth 100000 in
theorem small_calls (k : Nat) (A0 : Option Addr) (c0 : Nat) (l0 : List Int) (A1 : Option Addr) (c1 : Nat) (l1 : List Int) (s t : ByteArray) (a0 a1 a2 a3 a4 : ByteArray) (a5 a6 a7 a8 : Bool) (b0 b1 b2 b3 b4 : ByteArray) (b5 b6 b7 b8 : Bool) (r0 r1 r2 r3 r4 : ByteArray) (r5 r6 r7 r8 : Bool) (x0 x1 x2 x3 x4 : ByteArray) (x5 x6 x7 x8 : Bool) (e : Int) (d : ByteArray) (k1 k2 k3 k4 k5 k6 k7 : Nat) (w : World) (hG : Glob w)
    (hr0 : Kd.C (Kd.int .u8) w A0 l0.length l0) (hc0 : l0.length ≤ c0) (hr1 : Kd.C (Kd.int .u8) w A1 l1.length l1) (hc1 : l1.length ≤ c1)
    (hq1 : broadsheetlaw05_Pieces.f k l0 smallP = some s) (hq2 : broadsheetlaw05_Pieces.f k1 l1 smallP = some t)
    (hg1 : locator_Parse.f k5 s = some (a0, a1, a2, a3, a4, a5, a6, a7, a8, e)) (hg2 : broadsheetref12_Parse.f k6 s = some (a0, a1, a2, a3, a4, a5, a6, a7, a8, e))
    (hs1 : broadsheetref12_Split.f s = some (b0, b1, b2, b3, b4, b5, b6, b7, b8)) (hs2 : broadsheetref12_Split.f t = some (r0, r1, r2, r3, r4, r5, r6, r7, r8))
    (hp1 : locator_Print.f b0 b1 b2 b3 b4 b5 b6 b7 b8 = some s) (hd1 : locator_Dots.f k7 s = some d) (hd2 : broadsheetref12_Dots.f k2 s = some d)
    (hr1' : locator_Resolve.f k3 b0 b1 b2 b3 b4 b5 b6 b7 b8 r0 r1 r2 r3 r4 r5 r6 r7 r8 = some (x0, x1, x2, x3, x4, x5, x6, x7, x8)) (hr2' : broadsheetref12_Resolve.f k4 b0 b1 b2 b3 b4 b5 b6 b7 b8 r0 r1 r2 r3 r4 r5 r6 r7 r8 = some (x0, x1, x2, x3, x4, x5, x6, x7, x8)) :
    Calls Tryd.prog 9 #[.slice A0 l0.length c0, .slice A1 l1.length c1] w fun e w' => e = .returned (.bool true) ∧ Below w.heap.size w w' := by
  have HG := Lib.hid hG
  clear hG
  have hu24 := Tryd.underlying24
  have HR0 := Lib.hid hr0
  have HR1 := Lib.hid hr1
  have HC0 := Lib.hid hc0
  have HC1 := Lib.hid hc1
  clear hr0 hr1 hc0 hc1
  have hr1 := Lib.hid hr1'
  have hr2 := Lib.hid hr2'
  clear hr1' hr2'
  go_enter Tryd.func9, Tryd.ntmps9
  go_wp2_with fail
  generalize hW : World.alloc w _ = w1
  have HP := pieces_C w
  rw [show w.alloc (.cells smallC 9) = w1 from hW] at HP
  have hb1 : Below w.heap.size w w1 := by rw [← hW]; exact (Below.refl _ _).alloc (Nat.le_refl _) _
  clear hW
  replace HP := Lib.hid HP
  have hz : w.heap.size ≤ w1.heap.size := hb1.size
  generalize hgp : w.heap.size = gp at HP ⊢
  with_reducible refine (pieces_calls k A0 c0 l0 (some ⟨gp, 0, none⟩) s w1 (Kd.C_below HR0.out hb1) HC0.out HP.out hq1).mono ?_
  rintro x p1 ⟨rfl, h2⟩
  have hb2 : Below w.heap.size w p1 := hb1.trans (h2.mono hz)
  have HP1 := Lib.hid (Kd.C_below HP.out h2)
  clear h2 HP
  go_wp2_with fail
  with_reducible refine (pieces_calls k1 A1 c1 l1 (some ⟨gp, 0, none⟩) t p1 (Kd.C_below HR1.out hb2) HC1.out HP1.out hq2).mono ?_
  rintro x p2 ⟨rfl, h2⟩
  have hb3 : Below w.heap.size w p2 := hb2.trans (h2.mono hb2.size)
  clear h2 HP1 hb1 hb2 hz
  go_wp2_with fail
  with_reducible refine (locator_Parse.calls k5 s a0 a1 a2 a3 a4 a5 a6 a7 a8 e p2 (HG.out.below hb3) hg1).mono ?_
  rintro x w3 ⟨rfl, h3⟩
  have hb4 := below_step hb3 h3
  clear h3 hb3
  go_wp2_with fail
  have ka := blk_new w3 (.cells (uriC a0 a1 a2 a3 a4 a5 a6 a7 a8) 24)
  have hb5 : Below w.heap.size w (w3.alloc (.cells (uriC a0 a1 a2 a3 a4 a5 a6 a7 a8) 24)) := hb4.alloc hb4.size _
  with_reducible refine (broadsheetref12_Parse.calls k6 s a0 a1 a2 a3 a4 a5 a6 a7 a8 e (w3.alloc (.cells (uriC a0 a1 a2 a3 a4 a5 a6 a7 a8) 24)) hg2).mono ?_
  rintro x w4 ⟨rfl, h4⟩
  replace ka := blk_below ka h4
  have hb6 := below_step hb5 h4
  clear h4 hb5 hb4
  go_wp2_with fail
  replace ka := blk_alloc ka (.cells (uriC a0 a1 a2 a3 a4 a5 a6 a7 a8) 24)
  have kc := blk_new w4 (.cells (uriC a0 a1 a2 a3 a4 a5 a6 a7 a8) 24)
  have hb7 : Below w.heap.size w (w4.alloc (.cells (uriC a0 a1 a2 a3 a4 a5 a6 a7 a8) 24)) := hb6.alloc hb6.size _
  with_reducible refine (broadsheetref12_Split.calls s b0 b1 b2 b3 b4 b5 b6 b7 b8 (w4.alloc (.cells (uriC a0 a1 a2 a3 a4 a5 a6 a7 a8) 24)) hs1).mono ?_
  rintro x w5 ⟨rfl, h5⟩
  replace ka := blk_below ka h5
  replace kc := blk_below kc h5
  have hb8 := below_step hb7 h5
  clear h5 hb7 hb6
  go_wp2_with fail
  with_reducible refine (broadsheetref12_Split.calls t r0 r1 r2 r3 r4 r5 r6 r7 r8 w5 hs2).mono ?_
  rintro x w6 ⟨rfl, h6⟩
  replace ka := blk_below ka h6
  replace kc := blk_below kc h6
  have hb9 := below_step hb8 h6
  clear h6 hb8
  go_wp2_with fail
  replace ka := blk_alloc (blk_alloc ka (.cells (uriC b0 b1 b2 b3 b4 b5 b6 b7 b8) 24)) (.cells (uriC r0 r1 r2 r3 r4 r5 r6 r7 r8) 24)
  replace kc := blk_alloc (blk_alloc kc (.cells (uriC b0 b1 b2 b3 b4 b5 b6 b7 b8) 24)) (.cells (uriC r0 r1 r2 r3 r4 r5 r6 r7 r8) 24)
  have kb : ((w6.alloc (.cells (uriC b0 b1 b2 b3 b4 b5 b6 b7 b8) 24)).alloc (.cells (uriC r0 r1 r2 r3 r4 r5 r6 r7 r8) 24)).heap[w6.heap.size]? = some (.cells (uriC b0 b1 b2 b3 b4 b5 b6 b7 b8) 24 (0, 0)) := blk_alloc (blk_new w6 _) _
  have kr : ((w6.alloc (.cells (uriC b0 b1 b2 b3 b4 b5 b6 b7 b8) 24)).alloc (.cells (uriC r0 r1 r2 r3 r4 r5 r6 r7 r8) 24)).heap[w6.heap.size + 1]? = some (.cells (uriC r0 r1 r2 r3 r4 r5 r6 r7 r8) 24 (0, 0)) := by
    have := blk_new (w6.alloc (.cells (uriC b0 b1 b2 b3 b4 b5 b6 b7 b8) 24)) (.cells (uriC r0 r1 r2 r3 r4 r5 r6 r7 r8) 24)
    rwa [World.size_alloc] at this
  have hb : Below w.heap.size w ((w6.alloc (.cells (uriC b0 b1 b2 b3 b4 b5 b6 b7 b8) 24)).alloc (.cells (uriC r0 r1 r2 r3 r4 r5 r6 r7 r8) 24)) := (hb9.alloc hb9.size _).alloc (by rw [World.size_alloc]; have := hb9.size; omega) _
  clear hb9
  refine start_ (n := 34) (S := fun w' => (w'.cell? ⟨w3.heap.size, 0, none⟩ = some (.string a0) ∧ w'.cell? ⟨w3.heap.size, 1, none⟩ = some (.string a1) ∧ w'.cell? ⟨w3.heap.size, 2, none⟩ = some (.string a2) ∧ w'.cell? ⟨w3.heap.size, 3, none⟩ = some (.string a3) ∧ w'.cell? ⟨w3.heap.size, 4, none⟩ = some (.string a4) ∧ w'.cell? ⟨w3.heap.size, 5, none⟩ = some (.bool a5) ∧ w'.cell? ⟨w3.heap.size, 6, none⟩ = some (.bool a6) ∧ w'.cell? ⟨w3.heap.size, 7, none⟩ = some (.bool a7) ∧ w'.cell? ⟨w3.heap.size, 8, none⟩ = some (.bool a8)) ∧ (w'.cell? ⟨w4.heap.size, 0, none⟩ = some (.string a0) ∧ w'.cell? ⟨w4.heap.size, 1, none⟩ = some (.string a1) ∧ w'.cell? ⟨w4.heap.size, 2, none⟩ = some (.string a2) ∧ w'.cell? ⟨w4.heap.size, 3, none⟩ = some (.string a3) ∧ w'.cell? ⟨w4.heap.size, 4, none⟩ = some (.string a4) ∧ w'.cell? ⟨w4.heap.size, 5, none⟩ = some (.bool a5) ∧ w'.cell? ⟨w4.heap.size, 6, none⟩ = some (.bool a6) ∧ w'.cell? ⟨w4.heap.size, 7, none⟩ = some (.bool a7) ∧ w'.cell? ⟨w4.heap.size, 8, none⟩ = some (.bool a8)) ∧ (w'.cell? ⟨w6.heap.size, 0, none⟩ = some (.string b0) ∧ w'.cell? ⟨w6.heap.size, 1, none⟩ = some (.string b1) ∧ w'.cell? ⟨w6.heap.size, 2, none⟩ = some (.string b2) ∧ w'.cell? ⟨w6.heap.size, 3, none⟩ = some (.string b3) ∧ w'.cell? ⟨w6.heap.size, 4, none⟩ = some (.string b4) ∧ w'.cell? ⟨w6.heap.size, 5, none⟩ = some (.bool b5) ∧ w'.cell? ⟨w6.heap.size, 6, none⟩ = some (.bool b6) ∧ w'.cell? ⟨w6.heap.size, 7, none⟩ = some (.bool b7) ∧ w'.cell? ⟨w6.heap.size, 8, none⟩ = some (.bool b8)) ∧ (w'.cell? ⟨w6.heap.size + 1, 0, none⟩ = some (.string r0) ∧ w'.cell? ⟨w6.heap.size + 1, 1, none⟩ = some (.string r1) ∧ w'.cell? ⟨w6.heap.size + 1, 2, none⟩ = some (.string r2) ∧ w'.cell? ⟨w6.heap.size + 1, 3, none⟩ = some (.string r3) ∧ w'.cell? ⟨w6.heap.size + 1, 4, none⟩ = some (.string r4) ∧ w'.cell? ⟨w6.heap.size + 1, 5, none⟩ = some (.bool r5) ∧ w'.cell? ⟨w6.heap.size + 1, 6, none⟩ = some (.bool r6) ∧ w'.cell? ⟨w6.heap.size + 1, 7, none⟩ = some (.bool r7) ∧ w'.cell? ⟨w6.heap.size + 1, 8, none⟩ = some (.bool r8))) (ds := []) #[false, false, false, false, false, false, false, false, false, false, false, false, false, false, false, false, false, false, false, false, false, false, false, false, false, false, false, false, false, false, false, false, false, false] (by kernel_rfl) rfl rfl ⟨uri9 ka, uri9 kc, uri9 kb, uri9 kr⟩ (fun hHeld => ?_)
  refine with_tabW small_tab6 small_bits6 (fun HT_ HW_ => ?_)
  replace ka := blk_drew ka
  replace kc := blk_drew kc
  replace kb := blk_drew kb
  replace kr := blk_drew kr
  replace hb := below_drew1 hb
  generalize World.drew _ = v0 at ka kc kb kr hb hHeld ⊢
  refine one_ (i := 0) (N := some 35) #[true, false, false, false, false, false, false, false, false, false, false, false, false, false, false, false, false, false, false, false, false, false, false, false, false, false, false, false, false, false, false, false, false, false] rfl rfl (one_of HT_.out (by kernel_rfl)) (by decide) (fun K hK => ?_)
  refine goes_ Tryd.func10 (by kernel_rfl) rfl #[] (by rfl) rfl rfl (by (try simp only [List.map_toArray, List.map_cons, List.map_nil]); first | done | rfl) ?_
  with_reducible refine (awake_calls _ (HG.out.below hb)).mono ?_
  rintro x v1 ⟨rfl, h⟩
  have ka := blk_below ka h
  have kc := blk_below kc h
  have kb := blk_below kb h
  have kr := blk_below kr h
  have hb := below_step hb h
  clear h
  refine ⟨_, rfl, ?_⟩
  refine hK.out _ _ ⟨uri9 ka, uri9 kc, uri9 kb, uri9 kr⟩ (fun hHeld => ?_)
  clear hK K
  simp only [Act.put, List.setIfInBounds_toArray, List.set_cons_zero, List.set_cons_succ]
  refine pure_ (i := 1) (N := some 36) (v := .bool true) #[true, true, false, false, false, false, false, false, false, false, false, false, false, false, false, false, false, false, false, false, false, false, false, false, false, false, false, false, false, false, false, false, false, false] rfl rfl (any_of HT_.out (by kernel_rfl)) (fun _ _ _ h => h) (Or.inl ⟨by rfl, fun w' => by go_simp⟩) rfl ?_
  simp only [Act.put, List.setIfInBounds_toArray, List.set_cons_zero, List.set_cons_succ]
  refine take_ (i := 2) (N := some 37) (v := .agg (uriC a0 a1 a2 a3 a4 a5 a6 a7 a8)) #[true, true, true, false, false, false, false, false, false, false, false, false, false, false, false, false, false, false, false, false, false, false, false, false, false, false, false, false, false, false, false, false, false, false] rfl rfl (take_ofW HT_.out HW_.out (by kernel_rfl)) (fun _ _ _ h => h) (Or.inl ⟨by rfl, fun w' hS => by obtain ⟨⟨s0, s1, s2, s3, s4, s5, s6, s7, s8⟩, ⟨s9, s10, s11, s12, s13, s14, s15, s16, s17⟩, ⟨s18, s19, s20, s21, s22, s23, s24, s25, s26⟩, ⟨s27, s28, s29, s30, s31, s32, s33, s34, s35⟩⟩ := hS; go_simp⟩) hHeld rfl ?_
  refine take_ (i := 3) (N := some 38) (v := .agg (uriC a0 a1 a2 a3 a4 a5 a6 a7 a8)) #[true, true, true, true, false, false, false, false, false, false, false, false, false, false, false, false, false, false, false, false, false, false, false, false, false, false, false, false, false, false, false, false, false, false] rfl rfl (take_ofW HT_.out HW_.out (by kernel_rfl)) (fun _ _ _ h => h) (Or.inl ⟨by rfl, fun w' hS => by obtain ⟨⟨s0, s1, s2, s3, s4, s5, s6, s7, s8⟩, ⟨s9, s10, s11, s12, s13, s14, s15, s16, s17⟩, ⟨s18, s19, s20, s21, s22, s23, s24, s25, s26⟩, ⟨s27, s28, s29, s30, s31, s32, s33, s34, s35⟩⟩ := hS; go_simp⟩) hHeld rfl ?_
  simp only [Act.put, List.setIfInBounds_toArray, List.set_cons_zero, List.set_cons_succ]
  refine pure_ (i := 4) (N := some 39) (v := .bool true) #[true, true, true, true, true, false, false, false, false, false, false, false, false, false, false, false, false, false, false, false, false, false, false, false, false, false, false, false, false, false, false, false, false, false] rfl rfl (any_of HT_.out (by kernel_rfl)) (fun _ _ _ h => h) (Or.inl ⟨by rfl, fun w' => by go_simp⟩) rfl ?_
  simp only [Act.put, List.setIfInBounds_toArray, List.set_cons_zero, List.set_cons_succ]
  refine pure_ (i := 5) (N := some 40) (v := .bool true) #[true, true, true, true, true, true, false, false, false, false, false, false, false, false, false, false, false, false, false, false, false, false, false, false, false, false, false, false, false, false, false, false, false, false] rfl rfl (any_of HT_.out (by kernel_rfl)) (fun _ _ _ h => h) (Or.inl ⟨by rfl, fun w' => by go_simp⟩) rfl ?_
  simp only [Act.put, List.setIfInBounds_toArray, List.set_cons_zero, List.set_cons_succ]
  refine pure_ (i := 6) (N := some 41) (v := .bool true) #[true, true, true, true, true, true, true, false, false, false, false, false, false, false, false, false, false, false, false, false, false, false, false, false, false, false, false, false, false, false, false, false, false, false] rfl rfl (any_of HT_.out (by kernel_rfl)) (fun _ _ _ h => h) (Or.inl ⟨by rfl, fun w' => by go_simp⟩) rfl ?_
  simp only [Act.put, List.setIfInBounds_toArray, List.set_cons_zero, List.set_cons_succ]
  refine pure_ (i := 7) (N := some 42) (v := .int .i64 e) #[true, true, true, true, true, true, true, true, false, false, false, false, false, false, false, false, false, false, false, false, false, false, false, false, false, false, false, false, false, false, false, false, false, false] rfl rfl (any_of HT_.out (by kernel_rfl)) (fun _ _ _ h => h) (Or.inl ⟨by rfl, fun w' => by go_simp⟩) rfl ?_
  refine pure_ (i := 8) (N := some 43) (v := .int .i64 e) #[true, true, true, true, true, true, true, true, true, false, false, false, false, false, false, false, false, false, false, false, false, false, false, false, false, false, false, false, false, false, false, false, false, false] rfl rfl (any_of HT_.out (by kernel_rfl)) (fun _ _ _ h => h) (Or.inl ⟨by rfl, fun w' => by go_simp⟩) rfl ?_
  simp only [Act.put, List.setIfInBounds_toArray, List.set_cons_zero, List.set_cons_succ]
  refine pure_ (i := 9) (N := some 44) (v := .bool true) #[true, true, true, true, true, true, true, true, true, true, false, false, false, false, false, false, false, false, false, false, false, false, false, false, false, false, false, false, false, false, false, false, false, false] rfl rfl (any_of HT_.out (by kernel_rfl)) (fun _ _ _ h => h) (Or.inl ⟨by rfl, fun w' => by go_simp⟩) rfl ?_
  simp only [Act.put, List.setIfInBounds_toArray, List.set_cons_zero, List.set_cons_succ]
  refine pure_ (i := 10) (N := some 45) (v := .bool true) #[true, true, true, true, true, true, true, true, true, true, true, false, false, false, false, false, false, false, false, false, false, false, false, false, false, false, false, false, false, false, false, false, false, false] rfl rfl (any_of HT_.out (by kernel_rfl)) (fun _ _ _ h => h) (Or.inl ⟨by rfl, fun w' => by go_simp⟩) rfl ?_
  simp only [Act.put, List.setIfInBounds_toArray, List.set_cons_zero, List.set_cons_succ]
  refine pure_ (i := 11) (N := some 46) (v := .bool true) #[true, true, true, true, true, true, true, true, true, true, true, true, false, false, false, false, false, false, false, false, false, false, false, false, false, false, false, false, false, false, false, false, false, false] rfl rfl (any_of HT_.out (by kernel_rfl)) (fun _ _ _ h => h) (Or.inl ⟨by rfl, fun w' => by go_simp⟩) rfl ?_
  simp only [Act.put, List.setIfInBounds_toArray, List.set_cons_zero, List.set_cons_succ]
  refine take_ (i := 12) (N := some 47) (v := .agg (uriC b0 b1 b2 b3 b4 b5 b6 b7 b8)) #[true, true, true, true, true, true, true, true, true, true, true, true, true, false, false, false, false, false, false, false, false, false, false, false, false, false, false, false, false, false, false, false, false, false] rfl rfl (take_ofW HT_.out HW_.out (by kernel_rfl)) (fun _ _ _ h => h) (Or.inl ⟨by rfl, fun w' hS => by obtain ⟨⟨s0, s1, s2, s3, s4, s5, s6, s7, s8⟩, ⟨s9, s10, s11, s12, s13, s14, s15, s16, s17⟩, ⟨s18, s19, s20, s21, s22, s23, s24, s25, s26⟩, ⟨s27, s28, s29, s30, s31, s32, s33, s34, s35⟩⟩ := hS; go_simp⟩) hHeld rfl ?_
  simp only [Act.put, List.setIfInBounds_toArray, List.set_cons_zero, List.set_cons_succ]
  refine pure_ (i := 14) (N := some 49) (v := .string s) #[true, true, true, true, true, true, true, true, true, true, true, true, true, false, true, false, false, false, false, false, false, false, false, false, false, false, false, false, false, false, false, false, false, false] rfl rfl (any_of HT_.out (by kernel_rfl)) (fun _ _ _ h => h) (Or.inl ⟨by rfl, fun w' => by go_simp⟩) rfl ?_
  simp only [Act.put, List.setIfInBounds_toArray, List.set_cons_zero, List.set_cons_succ]
  refine one_ (i := 13) (N := some 48) #[true, true, true, true, true, true, true, true, true, true, true, true, true, true, true, false, false, false, false, false, false, false, false, false, false, false, false, false, false, false, false, false, false, false] rfl rfl (one_of HT_.out (by kernel_rfl)) (by decide) (fun K hK => ?_)
  refine goes_ Tryd.func14 (by kernel_rfl) rfl #[.agg (uriC b0 b1 b2 b3 b4 b5 b6 b7 b8)] (by rfl) rfl rfl (by (try simp only [List.map_toArray, List.map_cons, List.map_nil]); first | done | rfl) ?_
  with_reducible refine (locator_Print.calls b0 b1 b2 b3 b4 b5 b6 b7 b8 _ _ hp1).mono ?_
  rintro x v2 ⟨rfl, h⟩
  have ka := blk_below ka h
  have kc := blk_below kc h
  have kb := blk_below kb h
  have kr := blk_below kr h
  have hb := below_step hb h
  clear h
  refine ⟨_, rfl, ?_⟩
  refine hK.out _ _ ⟨uri9 ka, uri9 kc, uri9 kb, uri9 kr⟩ (fun hHeld => ?_)
  clear hK K
  simp only [Act.put, List.setIfInBounds_toArray, List.set_cons_zero, List.set_cons_succ]
  refine pure_ (i := 15) (N := some 50) (v := .bool true) #[true, true, true, true, true, true, true, true, true, true, true, true, true, true, true, true, false, false, false, false, false, false, false, false, false, false, false, false, false, false, false, false, false, false] rfl rfl (any_of HT_.out (by kernel_rfl)) (fun _ _ _ h => h) (Or.inl ⟨by rfl, fun w' => by go_simp⟩) rfl ?_
  simp only [Act.put, List.setIfInBounds_toArray, List.set_cons_zero, List.set_cons_succ]
  refine pure_ (i := 16) (N := some 51) (v := .bool true) #[true, true, true, true, true, true, true, true, true, true, true, true, true, true, true, true, true, false, false, false, false, false, false, false, false, false, false, false, false, false, false, false, false, false] rfl rfl (any_of HT_.out (by kernel_rfl)) (fun _ _ _ h => h) (Or.inl ⟨by rfl, fun w' => by go_simp⟩) rfl ?_
  simp only [Act.put, List.setIfInBounds_toArray, List.set_cons_zero, List.set_cons_succ]
  refine pure_ (i := 17) (N := some 52) (v := .bool true) #[true, true, true, true, true, true, true, true, true, true, true, true, true, true, true, true, true, true, false, false, false, false, false, false, false, false, false, false, false, false, false, false, false, false] rfl rfl (any_of HT_.out (by kernel_rfl)) (fun _ _ _ h => h) (Or.inl ⟨by rfl, fun w' => by go_simp⟩) rfl ?_
  simp only [Act.put, List.setIfInBounds_toArray, List.set_cons_zero, List.set_cons_succ]
  refine pure_ (i := 18) (N := some 53) (v := .string s) #[true, true, true, true, true, true, true, true, true, true, true, true, true, true, true, true, true, true, true, false, false, false, false, false, false, false, false, false, false, false, false, false, false, false] rfl rfl (any_of HT_.out (by kernel_rfl)) (fun _ _ _ h => h) (Or.inl ⟨by rfl, fun w' => by go_simp⟩) rfl ?_
  refine pure_ (i := 20) (N := some 55) (v := .string s) #[true, true, true, true, true, true, true, true, true, true, true, true, true, true, true, true, true, true, true, false, true, false, false, false, false, false, false, false, false, false, false, false, false, false] rfl rfl (any_of HT_.out (by kernel_rfl)) (fun _ _ _ h => h) (Or.inl ⟨by rfl, fun w' => by go_simp⟩) rfl ?_
  simp only [Act.put, List.setIfInBounds_toArray, List.set_cons_zero, List.set_cons_succ]
  refine one_ (i := 19) (N := some 54) #[true, true, true, true, true, true, true, true, true, true, true, true, true, true, true, true, true, true, true, true, true, false, false, false, false, false, false, false, false, false, false, false, false, false] rfl rfl (one_of HT_.out (by kernel_rfl)) (by decide) (fun K hK => ?_)
  refine goes_ Tryd.func16 (by kernel_rfl) rfl #[.string s] (by rfl) rfl rfl (by (try simp only [List.map_toArray, List.map_cons, List.map_nil]); first | done | rfl) ?_
  with_reducible refine (locator_Dots.calls _ s _ _ hd1).mono ?_
  rintro x v3 ⟨rfl, h⟩
  have ka := blk_below ka h
  have kc := blk_below kc h
  have kb := blk_below kb h
  have kr := blk_below kr h
  have hb := below_step hb h
  clear h
  refine ⟨_, rfl, ?_⟩
  refine hK.out _ _ ⟨uri9 ka, uri9 kc, uri9 kb, uri9 kr⟩ (fun hHeld => ?_)
  clear hK K
  simp only [Act.put, List.setIfInBounds_toArray, List.set_cons_zero, List.set_cons_succ]
  refine one_ (i := 21) (N := some 56) #[true, true, true, true, true, true, true, true, true, true, true, true, true, true, true, true, true, true, true, true, true, true, false, false, false, false, false, false, false, false, false, false, false, false] rfl rfl (one_of HT_.out (by kernel_rfl)) (by decide) (fun K hK => ?_)
  refine goes_ Tryd.func17 (by kernel_rfl) rfl #[.string s] (by rfl) rfl rfl (by (try simp only [List.map_toArray, List.map_cons, List.map_nil]); first | done | rfl) ?_
  with_reducible refine (broadsheetref12_Dots.calls _ s _ _ hd2).mono ?_
  rintro x v4 ⟨rfl, h⟩
  replace h := Drawn0.below h
  have ka := blk_below ka h
  have kc := blk_below kc h
  have kb := blk_below kb h
  have kr := blk_below kr h
  have hb := below_step hb h
  clear h
  refine ⟨_, rfl, ?_⟩
  refine hK.out _ _ ⟨uri9 ka, uri9 kc, uri9 kb, uri9 kr⟩ (fun hHeld => ?_)
  clear hK K
  simp only [Act.put, List.setIfInBounds_toArray, List.set_cons_zero, List.set_cons_succ]
  refine pure_ (i := 22) (N := some 57) (v := .bool true) #[true, true, true, true, true, true, true, true, true, true, true, true, true, true, true, true, true, true, true, true, true, true, true, false, false, false, false, false, false, false, false, false, false, false] rfl rfl (any_of HT_.out (by kernel_rfl)) (fun _ _ _ h => h) (Or.inl ⟨by rfl, fun w' => by go_simp⟩) rfl ?_
  simp only [Act.put, List.setIfInBounds_toArray, List.set_cons_zero, List.set_cons_succ]
  refine pure_ (i := 23) (N := some 58) (v := .bool true) #[true, true, true, true, true, true, true, true, true, true, true, true, true, true, true, true, true, true, true, true, true, true, true, true, false, false, false, false, false, false, false, false, false, false] rfl rfl (any_of HT_.out (by kernel_rfl)) (fun _ _ _ h => h) (Or.inl ⟨by rfl, fun w' => by go_simp⟩) rfl ?_
  simp only [Act.put, List.setIfInBounds_toArray, List.set_cons_zero, List.set_cons_succ]
  refine pure_ (i := 24) (N := some 59) (v := .bool true) #[true, true, true, true, true, true, true, true, true, true, true, true, true, true, true, true, true, true, true, true, true, true, true, true, true, false, false, false, false, false, false, false, false, false] rfl rfl (any_of HT_.out (by kernel_rfl)) (fun _ _ _ h => h) (Or.inl ⟨by rfl, fun w' => by go_simp⟩) rfl ?_
  simp only [Act.put, List.setIfInBounds_toArray, List.set_cons_zero, List.set_cons_succ]
  refine take_ (i := 25) (N := some 60) (v := .agg (uriC b0 b1 b2 b3 b4 b5 b6 b7 b8)) #[true, true, true, true, true, true, true, true, true, true, true, true, true, true, true, true, true, true, true, true, true, true, true, true, true, true, false, false, false, false, false, false, false, false] rfl rfl (take_ofW HT_.out HW_.out (by kernel_rfl)) (fun _ _ _ h => h) (Or.inl ⟨by rfl, fun w' hS => by obtain ⟨⟨s0, s1, s2, s3, s4, s5, s6, s7, s8⟩, ⟨s9, s10, s11, s12, s13, s14, s15, s16, s17⟩, ⟨s18, s19, s20, s21, s22, s23, s24, s25, s26⟩, ⟨s27, s28, s29, s30, s31, s32, s33, s34, s35⟩⟩ := hS; go_simp⟩) hHeld rfl ?_
  refine take_ (i := 26) (N := some 61) (v := .agg (uriC r0 r1 r2 r3 r4 r5 r6 r7 r8)) #[true, true, true, true, true, true, true, true, true, true, true, true, true, true, true, true, true, true, true, true, true, true, true, true, true, true, true, false, false, false, false, false, false, false] rfl rfl (take_ofW HT_.out HW_.out (by kernel_rfl)) (fun _ _ _ h => h) (Or.inl ⟨by rfl, fun w' hS => by obtain ⟨⟨s0, s1, s2, s3, s4, s5, s6, s7, s8⟩, ⟨s9, s10, s11, s12, s13, s14, s15, s16, s17⟩, ⟨s18, s19, s20, s21, s22, s23, s24, s25, s26⟩, ⟨s27, s28, s29, s30, s31, s32, s33, s34, s35⟩⟩ := hS; go_simp⟩) hHeld rfl ?_
  refine take_ (i := 28) (N := some 63) (v := .agg (uriC b0 b1 b2 b3 b4 b5 b6 b7 b8)) #[true, true, true, true, true, true, true, true, true, true, true, true, true, true, true, true, true, true, true, true, true, true, true, true, true, true, true, false, true, false, false, false, false, false] rfl rfl (take_ofW HT_.out HW_.out (by kernel_rfl)) (fun _ _ _ h => h) (Or.inl ⟨by rfl, fun w' hS => by obtain ⟨⟨s0, s1, s2, s3, s4, s5, s6, s7, s8⟩, ⟨s9, s10, s11, s12, s13, s14, s15, s16, s17⟩, ⟨s18, s19, s20, s21, s22, s23, s24, s25, s26⟩, ⟨s27, s28, s29, s30, s31, s32, s33, s34, s35⟩⟩ := hS; go_simp⟩) hHeld rfl ?_
  refine take_ (i := 29) (N := some 64) (v := .agg (uriC r0 r1 r2 r3 r4 r5 r6 r7 r8)) #[true, true, true, true, true, true, true, true, true, true, true, true, true, true, true, true, true, true, true, true, true, true, true, true, true, true, true, false, true, true, false, false, false, false] rfl rfl (take_ofW HT_.out HW_.out (by kernel_rfl)) (fun _ _ _ h => h) (Or.inl ⟨by rfl, fun w' hS => by obtain ⟨⟨s0, s1, s2, s3, s4, s5, s6, s7, s8⟩, ⟨s9, s10, s11, s12, s13, s14, s15, s16, s17⟩, ⟨s18, s19, s20, s21, s22, s23, s24, s25, s26⟩, ⟨s27, s28, s29, s30, s31, s32, s33, s34, s35⟩⟩ := hS; go_simp⟩) hHeld rfl ?_
  simp only [Act.put, List.setIfInBounds_toArray, List.set_cons_zero, List.set_cons_succ]
  refine one_ (i := 27) (N := some 62) #[true, true, true, true, true, true, true, true, true, true, true, true, true, true, true, true, true, true, true, true, true, true, true, true, true, true, true, true, true, true, false, false, false, false] rfl rfl (one_of HT_.out (by kernel_rfl)) (by decide) (fun K hK => ?_)
  refine goes_ Tryd.func18 (by kernel_rfl) rfl #[.agg (uriC b0 b1 b2 b3 b4 b5 b6 b7 b8), .agg (uriC r0 r1 r2 r3 r4 r5 r6 r7 r8)] (by rfl) rfl rfl (by (try simp only [List.map_toArray, List.map_cons, List.map_nil]); first | done | rfl) ?_
  with_reducible refine (locator_Resolve.calls _ b0 b1 b2 b3 b4 b5 b6 b7 b8 r0 r1 r2 r3 r4 r5 r6 r7 r8 x0 x1 x2 x3 x4 x5 x6 x7 x8 _ hr1.out).mono ?_
  rintro x v5 ⟨rfl, h⟩
  have ka := blk_below ka h
  have kc := blk_below kc h
  have kb := blk_below kb h
  have kr := blk_below kr h
  have hb := below_step hb h
  clear h
  refine ⟨_, rfl, ?_⟩
  refine hK.out _ _ ⟨uri9 ka, uri9 kc, uri9 kb, uri9 kr⟩ (fun hHeld => ?_)
  clear hK K
  simp only [Act.put, List.setIfInBounds_toArray, List.set_cons_zero, List.set_cons_succ]
  refine one_ (i := 30) (N := some 65) #[true, true, true, true, true, true, true, true, true, true, true, true, true, true, true, true, true, true, true, true, true, true, true, true, true, true, true, true, true, true, true, false, false, false] rfl rfl (one_of HT_.out (by kernel_rfl)) (by decide) (fun K hK => ?_)
  refine goes_ Tryd.func19 (by kernel_rfl) rfl #[.agg (uriC b0 b1 b2 b3 b4 b5 b6 b7 b8), .agg (uriC r0 r1 r2 r3 r4 r5 r6 r7 r8)] (by rfl) rfl rfl (by (try simp only [List.map_toArray, List.map_cons, List.map_nil]); first | done | rfl) ?_
  with_reducible refine (broadsheetref12_Resolve.calls _ b0 b1 b2 b3 b4 b5 b6 b7 b8 r0 r1 r2 r3 r4 r5 r6 r7 r8 x0 x1 x2 x3 x4 x5 x6 x7 x8 _ hr2.out).mono ?_
  rintro x v6 ⟨rfl, h⟩
  have ka := blk_below ka h
  have kc := blk_below kc h
  have kb := blk_below kb h
  have kr := blk_below kr h
  have hb := below_step hb h
  clear h
  refine ⟨_, rfl, ?_⟩
  refine hK.out _ _ ⟨uri9 ka, uri9 kc, uri9 kb, uri9 kr⟩ (fun hHeld => ?_)
  clear hK K
  simp only [Act.put, List.setIfInBounds_toArray, List.set_cons_zero, List.set_cons_succ]
  refine pure_ (i := 31) (N := some 66) (v := .bool true) #[true, true, true, true, true, true, true, true, true, true, true, true, true, true, true, true, true, true, true, true, true, true, true, true, true, true, true, true, true, true, true, true, false, false] rfl rfl (any_of HT_.out (by kernel_rfl)) (fun _ _ _ h => h) (Or.inl ⟨by rfl, fun w' => by go_simp⟩) rfl ?_
  simp only [Act.put, List.setIfInBounds_toArray, List.set_cons_zero, List.set_cons_succ]
  refine pure_ (i := 32) (N := some 67) (v := .bool true) #[true, true, true, true, true, true, true, true, true, true, true, true, true, true, true, true, true, true, true, true, true, true, true, true, true, true, true, true, true, true, true, true, true, false] rfl rfl (any_of HT_.out (by kernel_rfl)) (fun _ _ _ h => h) (Or.inl ⟨by rfl, fun w' => by go_simp⟩) rfl ?_
  simp only [Act.put, List.setIfInBounds_toArray, List.set_cons_zero, List.set_cons_succ]
  refine pure_ (i := 33) (N := some 4) (v := .bool true) #[true, true, true, true, true, true, true, true, true, true, true, true, true, true, true, true, true, true, true, true, true, true, true, true, true, true, true, true, true, true, true, true, true, true] rfl rfl (any_of HT_.out (by kernel_rfl)) (fun _ _ _ h => h) (Or.inl ⟨by rfl, fun w' => by go_simp⟩) rfl ?_
  simp only [Act.put, List.setIfInBounds_toArray, List.set_cons_zero, List.set_cons_succ]
  refine done_ (done_of HT_.out (by kernel_rfl)) ?_
  clear hHeld
  go_wp2
  go_ret
  exact ⟨rfl, hb⟩

end Go.Proofs.YtldancekpigkaaaDoor.X
