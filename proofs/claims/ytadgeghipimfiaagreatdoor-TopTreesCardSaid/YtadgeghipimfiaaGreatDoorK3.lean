/- Part of the proof of topTrees_card, merged out of smaller texts. Conditions: the listed variables of the library hold what the program's text lays. -/
import Derived.Test.YtadgeghipimfiaaGreatDoorK2
import Derived.LoopN
import Derived.Defers
import Derived.Recover
import Derived.Lib.IndexLaws
import Derived.Deep.SlicePairs
import Derived.ChangeArms
import Derived.ChangeSame
import Derived.WideShapes
import Derived.SizedLaws
import Derived.Lib.OthersKept
import Derived.Lib.AppendStr
import Derived.Lib.UnsafeStr
section
namespace Go.Proofs.YtadgeghipimfiaaGreatDoor.X
open Go.RowKit Go.Shelf Go.Proofs.YtadgeghipimfiaaGreatDoorW.PrintWords Go.Proofs.YtadgeghipimfiaaGreatDoor.F Go.Proofs.YtadgeghipimfiaaGreatDoor.Pg Go.Proofs.YtadgeghipimfiaaGreatDoor.Z
set_option linter.unusedVariables false
set_option linter.unusedSimpArgs false
set_option maxRecDepth 100000 in
set_option maxHeartbeats 2000000 in
theorem uint_D (w : World) : Calls Tryz.prog 213 #[.string (M [68]), .int .i64 16, .int .i64 64] w fun e w' => e = .returned (.tuple #[.int .u64 13, .nilIface]) ∧ Below w.heap.size w w' := by
 have hconv := Lib.run_convert_string_bytes (P := Tryz.prog) w 9 42 5 (M [68]) Tryz.underlying9 Tryz.underlying42 Tryz.underlying5
 have hcell : (Lib.bytesWorld w 5 (M [68])).cell? ⟨w.heap.size, 0, none⟩ = some (.int .u8 68) := Lib.bytesWorld_cell w 5 (M [68]) 0 (by decide)
 have HB := Lib.hid (show Below w.heap.size w (Lib.bytesWorld w 5 (M [68])) from ⟨rfl, rfl, rfl, by rw [Lib.bytesWorld_size]; omega, fun k hk => Lib.bytesWorld_at_old w 5 _ k hk⟩)
 generalize Lib.bytesWorld w 5 (M [68]) = W at *
 generalize Go.grownCap w (M [68]).size 0 5 = cap at *
 have hsz : (M [68]).size = 1 := rfl
 rw [hsz] at hconv
 clear hsz
 go_enter Tryz.func213, Tryz.ntmps213
 go_wp2
 refine wp_loop_rounds 2 ?_
 rw [rounds_succ]
 go_wp2
 rw [rounds_succ]
 go_wp2
 go_ret2
 exact ⟨rfl, HB.out⟩
set_option maxRecDepth 100000 in
set_option maxHeartbeats 2000000 in
theorem int_D (w : World) : Calls Tryz.prog 202 #[.string (M [68]), .int .i64 16, .int .i64 64] w fun e w' => e = .returned (.tuple #[.int .i64 13, .nilIface]) ∧ Below w.heap.size w w' := by
 go_enter Tryz.func202, Tryz.ntmps202
 go_wp2_with fail
 refine (uint_D w).mono ?_
 rintro e w1 ⟨rfl, h1⟩
 go_wp2
 go_ret2
 exact ⟨rfl, h1⟩
theorem parse_D (w : World) : Calls Tryz.prog 184 #[.string (M [68]), .int .i64 16, .int .i64 64] w fun e w' => e = .returned (.tuple #[.int .i64 13, .nilIface]) ∧ Below w.heap.size w w' := by
 go_enter Tryz.func184, Tryz.ntmps184
 go_wp2_with fail
 refine (int_D w).mono ?_
 rintro e w1 ⟨rfl, h1⟩
 go_wp2
 go_ret2
 exact ⟨rfl, h1⟩
set_option maxRecDepth 100000 in
set_option maxHeartbeats 2000000 in
theorem uint_9 (w : World) : Calls Tryz.prog 213 #[.string (M [57]), .int .i64 16, .int .i64 64] w fun e w' => e = .returned (.tuple #[.int .u64 9, .nilIface]) ∧ Below w.heap.size w w' := by
 have hconv := Lib.run_convert_string_bytes (P := Tryz.prog) w 9 42 5 (M [57]) Tryz.underlying9 Tryz.underlying42 Tryz.underlying5
 have hcell : (Lib.bytesWorld w 5 (M [57])).cell? ⟨w.heap.size, 0, none⟩ = some (.int .u8 57) := Lib.bytesWorld_cell w 5 (M [57]) 0 (by decide)
 have HB := Lib.hid (show Below w.heap.size w (Lib.bytesWorld w 5 (M [57])) from ⟨rfl, rfl, rfl, by rw [Lib.bytesWorld_size]; omega, fun k hk => Lib.bytesWorld_at_old w 5 _ k hk⟩)
 generalize Lib.bytesWorld w 5 (M [57]) = W at *
 generalize Go.grownCap w (M [57]).size 0 5 = cap at *
 have hsz : (M [57]).size = 1 := rfl
 rw [hsz] at hconv
 clear hsz
 go_enter Tryz.func213, Tryz.ntmps213
 go_wp2
 refine wp_loop_rounds 2 ?_
 rw [rounds_succ]
 go_wp2
 rw [rounds_succ]
 go_wp2
 go_ret2
 exact ⟨rfl, HB.out⟩
set_option maxRecDepth 100000 in
set_option maxHeartbeats 2000000 in
theorem int_9 (w : World) : Calls Tryz.prog 202 #[.string (M [57]), .int .i64 16, .int .i64 64] w fun e w' => e = .returned (.tuple #[.int .i64 9, .nilIface]) ∧ Below w.heap.size w w' := by
 go_enter Tryz.func202, Tryz.ntmps202
 go_wp2_with fail
 refine (uint_9 w).mono ?_
 rintro e w1 ⟨rfl, h1⟩
 go_wp2
 go_ret2
 exact ⟨rfl, h1⟩
theorem parse_9 (w : World) : Calls Tryz.prog 184 #[.string (M [57]), .int .i64 16, .int .i64 64] w fun e w' => e = .returned (.tuple #[.int .i64 9, .nilIface]) ∧ Below w.heap.size w w' := by
 go_enter Tryz.func184, Tryz.ntmps184
 go_wp2_with fail
 refine (int_9 w).mono ?_
 rintro e w1 ⟨rfl, h1⟩
 go_wp2
 go_ret2
 exact ⟨rfl, h1⟩
set_option maxRecDepth 100000 in
set_option maxHeartbeats 2000000 in
theorem uint_A (w : World) : Calls Tryz.prog 213 #[.string (M [65]), .int .i64 16, .int .i64 64] w fun e w' => e = .returned (.tuple #[.int .u64 10, .nilIface]) ∧ Below w.heap.size w w' := by
 have hconv := Lib.run_convert_string_bytes (P := Tryz.prog) w 9 42 5 (M [65]) Tryz.underlying9 Tryz.underlying42 Tryz.underlying5
 have hcell : (Lib.bytesWorld w 5 (M [65])).cell? ⟨w.heap.size, 0, none⟩ = some (.int .u8 65) := Lib.bytesWorld_cell w 5 (M [65]) 0 (by decide)
 have HB := Lib.hid (show Below w.heap.size w (Lib.bytesWorld w 5 (M [65])) from ⟨rfl, rfl, rfl, by rw [Lib.bytesWorld_size]; omega, fun k hk => Lib.bytesWorld_at_old w 5 _ k hk⟩)
 generalize Lib.bytesWorld w 5 (M [65]) = W at *
 generalize Go.grownCap w (M [65]).size 0 5 = cap at *
 have hsz : (M [65]).size = 1 := rfl
 rw [hsz] at hconv
 clear hsz
 go_enter Tryz.func213, Tryz.ntmps213
 go_wp2
 refine wp_loop_rounds 2 ?_
 rw [rounds_succ]
 go_wp2
 rw [rounds_succ]
 go_wp2
 go_ret2
 exact ⟨rfl, HB.out⟩
set_option maxRecDepth 100000 in
set_option maxHeartbeats 2000000 in
theorem int_A (w : World) : Calls Tryz.prog 202 #[.string (M [65]), .int .i64 16, .int .i64 64] w fun e w' => e = .returned (.tuple #[.int .i64 10, .nilIface]) ∧ Below w.heap.size w w' := by
 go_enter Tryz.func202, Tryz.ntmps202
 go_wp2_with fail
 refine (uint_A w).mono ?_
 rintro e w1 ⟨rfl, h1⟩
 go_wp2
 go_ret2
 exact ⟨rfl, h1⟩
theorem parse_A (w : World) : Calls Tryz.prog 184 #[.string (M [65]), .int .i64 16, .int .i64 64] w fun e w' => e = .returned (.tuple #[.int .i64 10, .nilIface]) ∧ Below w.heap.size w w' := by
 go_enter Tryz.func184, Tryz.ntmps184
 go_wp2_with fail
 refine (int_A w).mono ?_
 rintro e w1 ⟨rfl, h1⟩
 go_wp2
 go_ret2
 exact ⟨rfl, h1⟩
theorem trim_calls (s : ByteArray) (c : Bs) (w : World) (hs : s.size ≤ 9223372036854775807) (hc : c.length < 4294967281) (ha : ∀ (j : Nat) b, c[j]? = some b → b.toNat < 128) :
  Calls Tryz.prog 92 #[.string s, .string (M c)] w fun e w' => e = .returned (.string (M (Lib.trimS (L s) c))) ∧ Below w.heap.size w w' :=
 Any.strings_Trim_laid Tryz.lays160 (by kernel_rfl) s (M c) w hs hc ha
def hexS : Bs := [48, 49, 50, 51, 52, 53, 54, 55, 56, 57, 97, 98, 99, 100, 101, 102, 65, 66, 67, 68, 69, 70]
set_option maxRecDepth 100000 in
set_option maxHeartbeats 1000000 in
theorem named_xD (w : World) : Calls Tryz.prog 167 #[.string (M [35, 120, 68])] w fun e w' => e = .returned (.string (M [13])) ∧ Below w.heap.size w w' := by
 have hmm := @run_makeMap Tryz.prog
 have e0 := nm_put0 w
 have e1 := nm_put1 w
 have e2 := nm_put2 w
 have e3 := nm_put3 w
 have e4 := nm_put4 w
 have eg : (Instr.lookup 238 (.map (some w.heap.size)) (.string (M [35, 120, 68])) true).run Tryz.prog (w.alloc (.map nmEs 5)) = .ok (.tuple #[.int .i32 0, .bool false]) (w.alloc (.map nmEs 5)) :=
  run_get_miss 238 9 21 Tryz.underlying238 Tryz.underlying9 _ _ nmEs 5 _ _ (by kernel_rfl) (World.alloc_heap_new w _) (by kernel_rfl)
 have ec : ∀ W, (convert 21 9 (.int .i32 13)).run Tryz.prog W = .ok (.string (M [13])) W := fun W => by kernel_rfl
 go_enter Tryz.func167, Tryz.ntmps167
 go_wp2_with fail
 refine (Tryz.strings_CutPrefix (M [35, 120, 68]) (M [35]) _).mono ?_
 rintro e w1 ⟨rfl, rfl⟩
 rw [show Lib.hasPrefix (M [35, 120, 68]).data.toList (M [35]).data.toList = true from rfl, show (⟨(Lib.trimPrefix (M [35, 120, 68]).data.toList (M [35]).data.toList).toArray⟩ : ByteArray) = M [120, 68] from rfl]
 clear e0 e1 e2 e3 e4 eg
 have HB := Lib.hid ((Below.refl w.heap.size w).alloc (Nat.le_refl _) (.map nmEs 5))
 go_wp2_with fail
 refine (Tryz.strings_CutPrefix (M [120, 68]) (M [120]) _).mono ?_
 rintro e w1 ⟨rfl, rfl⟩
 rw [show Lib.hasPrefix (M [120, 68]).data.toList (M [120]).data.toList = true from rfl, show (⟨(Lib.trimPrefix (M [120, 68]).data.toList (M [120]).data.toList).toArray⟩ : ByteArray) = M [68] from rfl]
 go_wp2_with fail
 refine (trim_calls (M [68]) hexS _ (by decide) (by decide) (ascii_of_all (by decide))).mono ?_
 rintro e w2 ⟨rfl, h2⟩
 rw [show M (Lib.trimS (L (M [68])) hexS) = M [] from by rfl]
 have H2 := Lib.hid (HB.out.trans (h2.mono HB.out.size))
 clear h2
 have he := M_empty ([] : List UInt8)
 go_wp2_with fail
 refine (parse_D w2).mono ?_
 rintro e w3 ⟨rfl, h3⟩
 have H3 := Lib.hid (H2.out.trans (h3.mono H2.out.size))
 clear h3 he
 go_wp2_with fail
 refine (char_calls 13 w3).mono ?_
 rintro e w4 ⟨rfl, h4⟩
 rw [show charB 13 = true from by decide]
 go_wp2
 go_ret
 exact ⟨rfl, H3.out.trans (h4.mono H3.out.size)⟩
set_option maxRecDepth 100000 in
set_option maxHeartbeats 1000000 in
theorem named_x9 (w : World) : Calls Tryz.prog 167 #[.string (M [35, 120, 57])] w fun e w' => e = .returned (.string (M [9])) ∧ Below w.heap.size w w' := by
 have hmm := @run_makeMap Tryz.prog
 have e0 := nm_put0 w
 have e1 := nm_put1 w
 have e2 := nm_put2 w
 have e3 := nm_put3 w
 have e4 := nm_put4 w
 have eg : (Instr.lookup 238 (.map (some w.heap.size)) (.string (M [35, 120, 57])) true).run Tryz.prog (w.alloc (.map nmEs 5)) = .ok (.tuple #[.int .i32 0, .bool false]) (w.alloc (.map nmEs 5)) :=
  run_get_miss 238 9 21 Tryz.underlying238 Tryz.underlying9 _ _ nmEs 5 _ _ (by kernel_rfl) (World.alloc_heap_new w _) (by kernel_rfl)
 have ec : ∀ W, (convert 21 9 (.int .i32 9)).run Tryz.prog W = .ok (.string (M [9])) W := fun W => by kernel_rfl
 go_enter Tryz.func167, Tryz.ntmps167
 go_wp2_with fail
 refine (Tryz.strings_CutPrefix (M [35, 120, 57]) (M [35]) _).mono ?_
 rintro e w1 ⟨rfl, rfl⟩
 rw [show Lib.hasPrefix (M [35, 120, 57]).data.toList (M [35]).data.toList = true from rfl, show (⟨(Lib.trimPrefix (M [35, 120, 57]).data.toList (M [35]).data.toList).toArray⟩ : ByteArray) = M [120, 57] from rfl]
 clear e0 e1 e2 e3 e4 eg
 have HB := Lib.hid ((Below.refl w.heap.size w).alloc (Nat.le_refl _) (.map nmEs 5))
 go_wp2_with fail
 refine (Tryz.strings_CutPrefix (M [120, 57]) (M [120]) _).mono ?_
 rintro e w1 ⟨rfl, rfl⟩
 rw [show Lib.hasPrefix (M [120, 57]).data.toList (M [120]).data.toList = true from rfl, show (⟨(Lib.trimPrefix (M [120, 57]).data.toList (M [120]).data.toList).toArray⟩ : ByteArray) = M [57] from rfl]
 go_wp2_with fail
 refine (trim_calls (M [57]) hexS _ (by decide) (by decide) (ascii_of_all (by decide))).mono ?_
 rintro e w2 ⟨rfl, h2⟩
 rw [show M (Lib.trimS (L (M [57])) hexS) = M [] from by rfl]
 have H2 := Lib.hid (HB.out.trans (h2.mono HB.out.size))
 clear h2
 have he := M_empty ([] : List UInt8)
 go_wp2_with fail
 refine (parse_9 w2).mono ?_
 rintro e w3 ⟨rfl, h3⟩
 have H3 := Lib.hid (H2.out.trans (h3.mono H2.out.size))
 clear h3 he
 go_wp2_with fail
 refine (char_calls 9 w3).mono ?_
 rintro e w4 ⟨rfl, h4⟩
 rw [show charB 9 = true from by decide]
 go_wp2
 go_ret
 exact ⟨rfl, H3.out.trans (h4.mono H3.out.size)⟩
set_option maxRecDepth 100000 in
set_option maxHeartbeats 1000000 in
theorem named_xA (w : World) : Calls Tryz.prog 167 #[.string (M [35, 120, 65])] w fun e w' => e = .returned (.string (M [10])) ∧ Below w.heap.size w w' := by
 have hmm := @run_makeMap Tryz.prog
 have e0 := nm_put0 w
 have e1 := nm_put1 w
 have e2 := nm_put2 w
 have e3 := nm_put3 w
 have e4 := nm_put4 w
 have eg : (Instr.lookup 238 (.map (some w.heap.size)) (.string (M [35, 120, 65])) true).run Tryz.prog (w.alloc (.map nmEs 5)) = .ok (.tuple #[.int .i32 0, .bool false]) (w.alloc (.map nmEs 5)) :=
  run_get_miss 238 9 21 Tryz.underlying238 Tryz.underlying9 _ _ nmEs 5 _ _ (by kernel_rfl) (World.alloc_heap_new w _) (by kernel_rfl)
 have ec : ∀ W, (convert 21 9 (.int .i32 10)).run Tryz.prog W = .ok (.string (M [10])) W := fun W => by kernel_rfl
 go_enter Tryz.func167, Tryz.ntmps167
 go_wp2_with fail
 refine (Tryz.strings_CutPrefix (M [35, 120, 65]) (M [35]) _).mono ?_
 rintro e w1 ⟨rfl, rfl⟩
 rw [show Lib.hasPrefix (M [35, 120, 65]).data.toList (M [35]).data.toList = true from rfl, show (⟨(Lib.trimPrefix (M [35, 120, 65]).data.toList (M [35]).data.toList).toArray⟩ : ByteArray) = M [120, 65] from rfl]
 clear e0 e1 e2 e3 e4 eg
 have HB := Lib.hid ((Below.refl w.heap.size w).alloc (Nat.le_refl _) (.map nmEs 5))
 go_wp2_with fail
 refine (Tryz.strings_CutPrefix (M [120, 65]) (M [120]) _).mono ?_
 rintro e w1 ⟨rfl, rfl⟩
 rw [show Lib.hasPrefix (M [120, 65]).data.toList (M [120]).data.toList = true from rfl, show (⟨(Lib.trimPrefix (M [120, 65]).data.toList (M [120]).data.toList).toArray⟩ : ByteArray) = M [65] from rfl]
 go_wp2_with fail
 refine (trim_calls (M [65]) hexS _ (by decide) (by decide) (ascii_of_all (by decide))).mono ?_
 rintro e w2 ⟨rfl, h2⟩
 rw [show M (Lib.trimS (L (M [65])) hexS) = M [] from by rfl]
 have H2 := Lib.hid (HB.out.trans (h2.mono HB.out.size))
 clear h2
 have he := M_empty ([] : List UInt8)
 go_wp2_with fail
 refine (parse_A w2).mono ?_
 rintro e w3 ⟨rfl, h3⟩
 have H3 := Lib.hid (H2.out.trans (h3.mono H2.out.size))
 clear h3 he
 go_wp2_with fail
 refine (char_calls 10 w3).mono ?_
 rintro e w4 ⟨rfl, h4⟩
 rw [show charB 10 = true from by decide]
 go_wp2
 go_ret
 exact ⟨rfl, H3.out.trans (h4.mono H3.out.size)⟩
theorem named_any (n v : Bs) (h : (n, v) ∈ refs) (w : World) : Calls Tryz.prog 167 #[.string (M n)] w fun e w' => e = .returned (.string (M v)) ∧ Below w.heap.size w w' := by
 simp only [refs, List.mem_cons, Prod.mk.injEq, List.not_mem_nil, or_false] at h
 rcases h with ⟨rfl, rfl⟩ | ⟨rfl, rfl⟩ | ⟨rfl, rfl⟩ | ⟨rfl, rfl⟩ | ⟨rfl, rfl⟩ | ⟨rfl, rfl⟩ | ⟨rfl, rfl⟩
 ·exact named_lt w
 ·exact named_gt w
 ·exact named_amp w
 ·exact named_quot w
 ·exact named_xD w
 ·exact named_x9 w
 ·exact named_xA w
theorem idle255 (p q : Addr) (w : World) : CallsD Tryz.prog 166 #[.pointer (some p), .pointer (some q)] .returning w fun e u' w' => e = .returned (.tuple #[]) ∧ u' = .returning ∧ w' = w := by
 refine callsD_of_wpS Tryz.func166 rfl fun c₀ cs hu => ?_
 apply wpS_seq
 apply wpS_region
 simp [wpOpsS, go_sem, recoverD, hu, Tryz.ntmps166, Exit.thenS]
 apply wpS_seq
 apply wpS_region
 simp [wpOpsS, go_sem, Exit.thenS]
 refine wpS_cond (t := false) (by simp [Act.eval, Array.replicate]) ?_
 simp only [Bool.false_eq_true, if_false]
 refine wpS_of_wp (wp_skip ?_)
 cases c₀
 simp_all [bodyPostS, results, Tryz.results166]
theorem cut_none {u : Bs} {c : UInt8} (h : ∀ d ∈ u, d ≠ c) : Lib.cut u [c] = (u, [], false) := by
 have : Lib.index u [c] = -1 := Lib.index_none fun j hj => by
  cases ho : Lib.occAt u [c] j with
  | false => rfl
  | true =>
    have := Lib.occAt_head rfl ho
    exact absurd rfl (h c (List.mem_of_getElem? this))
 unfold Lib.cut
 rw [this, if_neg (by decide)]
theorem cut_hit {u v : Bs} {c : UInt8} (h : ∀ d ∈ u, d ≠ c) : Lib.cut (u ++ c :: v) [c] = (u, v, true) := by
 have : Lib.index (u ++ c :: v) [c] = (u.length : Int) := Lib.index_first (i := u.length) (by simp) (by unfold Lib.occAt; rw [List.drop_left]; simp) fun j hj => by
  cases ho : Lib.occAt (u ++ c :: v) [c] j with
  | false => rfl
  | true =>
    have := Lib.occAt_head rfl ho
    rw [List.getElem?_append_left hj] at this
    exact absurd rfl (h c (List.mem_of_getElem? this))
 unfold Lib.cut
 rw [this, if_pos (by omega)]
 simp
theorem cut_calls (s t : Bs) (w : World) (hG : Glob w) (hs : s.length < 4294967281) :
  Calls Tryz.prog 95 #[.string (M s), .string (M t)] w fun e w' => e = .returned (.tuple #[.string (M (Lib.cut s t).1), .string (M (Lib.cut s t).2.1), .bool (Lib.cut s t).2.2]) ∧ Below w.heap.size w w' := by
 obtain ⟨m, hm⟩ := hG.max
 refine (Tryz.strings_Cut (M s) (M t) m w hs hm).mono ?_
 rintro e w' ⟨rfl, n, rfl⟩
 exact ⟨rfl, below_drewN w n⟩
theorem refs_no {n v : Bs} (h : (n, v) ∈ refs) : ∀ d ∈ n, d ≠ 59 := by
 simp only [refs, List.mem_cons, Prod.mk.injEq, List.not_mem_nil, or_false] at h
 rcases h with ⟨rfl, rfl⟩ | ⟨rfl, rfl⟩ | ⟨rfl, rfl⟩ | ⟨rfl, rfl⟩ | ⟨rfl, rfl⟩ | ⟨rfl, rfl⟩ | ⟨rfl, rfl⟩ <;> decide
def strLen : Value → Nat | .string s => s.size | _ => 0
structure ExpAt (pl : Bs → Bs) (w : World) (out r acc o2 : Bs) (wr : World) : Prop where
 exp : Exp pl r o2
 sum : acc ++ o2 = out
 bl : Bl (w.heap.size + 2) (w.heap.size + 2) acc wr
 r1 : Boxed wr w.heap.size 9 (.string ⟨#[]⟩)
 r2 : Boxed wr (w.heap.size + 1) 28 (.int .i64 0)
 below : Below w.heap.size w wr
 len : r.length < 4294967000
theorem ExpAt.lt {pl : Bs → Bs} {w : World} {out r acc o2 : Bs} {wr : World} (h : ExpAt pl w out r acc o2 wr) : w.heap.size + 2 ≤ wr.heap.size := h.r2.lt
theorem ExpAt.room {pl : Bs → Bs} {w : World} {out r acc o2 : Bs} {wr : World} (h : ExpAt pl w out r acc o2 wr) : acc.length + o2.length = out.length := by rw [← h.sum, List.length_append]
theorem ExpAt.low {pl : Bs → Bs} {w : World} {out r acc o2 : Bs} {wr wr' : World} (h : ExpAt pl w out r acc o2 wr) (hb : Below wr.heap.size wr wr') : ExpAt pl w out r acc o2 wr' :=
 ⟨h.exp, h.sum, h.bl.below hb, (hb.block _ h.r1.lt).trans h.r1, (hb.block _ h.r2.lt).trans h.r2, h.below.trans (hb.mono h.below.size), h.len⟩
theorem ExpAt.put {pl : Bs → Bs} {w : World} {out r acc o2 r' acc' o2' : Bs} {wr wr' : World} (h : ExpAt pl w out r acc o2 wr) (hb : Below (w.heap.size + 2) wr wr') (hbl : Bl (w.heap.size + 2) (w.heap.size + 2) acc' wr') (he : Exp pl r' o2') (hs : acc' ++ o2' = out) (hl : r'.length ≤ r.length) : ExpAt pl w out r' acc' o2' wr' :=
 ⟨he, hs, hbl, (hb.block _ (by omega)).trans h.r1, (hb.block _ (by omega)).trans h.r2, h.below.trans (hb.mono (by omega)), by have := h.len; omega⟩
theorem ExpAt.fin {pl : Bs → Bs} {w : World} {out r acc o2 : Bs} {wr wr' : World} (h : ExpAt pl w out r acc o2 wr) (hb : Below (w.heap.size + 2) wr wr') : Boxed wr' w.heap.size 9 (.string ⟨#[]⟩) ∧ Boxed wr' (w.heap.size + 1) 28 (.int .i64 0) ∧ Below w.heap.size w wr' :=
 ⟨(hb.block _ (by omega)).trans h.r1, (hb.block _ (by omega)).trans h.r2, h.below.trans (hb.mono (by omega))⟩
theorem id218 (u : ByteArray) (w : World) : Calls Tryz.prog 137 #[.string u] w fun e w' => e = .returned (.string u) ∧ w = w' := by
 go_enter Tryz.func137, Tryz.ntmps137
 go_wp2
 go_ret
 exact ⟨rfl, rfl⟩
set_option maxRecDepth 100000 in
set_option maxHeartbeats 1000000 in
theorem expanded_text (s out : Bs) (w : World) (hG : Glob w) (hs : s.length < 4294967000) (h : Exp id s out) (ho : out.length ≤ 4294967000) :
  Calls Tryz.prog 136 #[.string (M s), .func (.func 137) #[] #[]] w fun e w' => e = .returned (.tuple #[.string (M out), .int .i64 0]) ∧ Below w.heap.size w w' := by
 have hmf : ∀ (fn : Fn) (first cap : Array Value) (w : World), (Instr.makeFunc fn first cap).run Tryz.prog w = .ok (.func fn first cap) w := fun _ _ _ _ => rfl
 have HG := Lib.hid hG
 have HE := Lib.hid h
 clear hG h
 go_enter_defers Tryz.func136, Tryz.ntmps136
 go_wp2_with fail
 go_loopw [0] (fun s0 wr => ∃ r acc o2, s0 = .string (M r) ∧ Aside0 (ExpAt id w out r acc o2 wr)) (fun s0 _ => strLen s0)
 case atStart =>
  refine ⟨s, [], out, rfl, ⟨⟨HE.out, rfl, ?_, ?_, ?_, ?_, hs⟩⟩⟩
  ·have := Bl.new ((w.alloc (.cells #[.string ⟨#[]⟩] 9)).alloc (.cells #[.int .i64 0] 28))
   simpa using this
  ·exact ((Boxed.new w 9 (.string ⟨#[]⟩)).alloc _).alloc _
  ·have := (Boxed.new (w.alloc (.cells #[.string ⟨#[]⟩] 9)) 28 (.int .i64 0)).alloc (.cells #[.pointer none, .slice none 0 0] 44)
   simpa using this
  ·exact (((Below.refl _ w).alloc (Nat.le_refl _) _).alloc (by simp) _).alloc (by simp; omega) _
 case round =>
  obtain ⟨r, acc, o2, rfl, HX⟩ := hrel
  have hroom := HX.out.room
  cases HX.out.exp with
  | last _ hu =>
    have HC := Lib.hid (cut_none hu)
    have hl : acc.length + r.length ≤ 140737488355328 := by
     have : (id r).length = r.length := rfl
     omega
    have HL := Lib.hid hl
    clear hu hl hroom
    go_wp2_with fail
    refine (cut_calls r [38] wr (HG.out.below HX.out.below) (by have := HX.out.len; omega)).mono ?_
    rintro e w1 ⟨rfl, h1⟩
    rw [HC.out]
    have H1 := Lib.hid (HX.out.low h1)
    clear h1
    go_wp2_with fail
    refine (id218 (M r) w1).mono ?_
    rintro e w2 ⟨rfl, rfl⟩
    go_wp2_with fail
    refine (write_calls _ _ acc (M r) w1 H1.out.bl HL.out H1.out.lt).mono ?_
    rintro e w3 ⟨rfl, hb3, hl3⟩
    have H3 := Lib.hid (H1.out.put hl3 hb3 (Exp.last [] (by simp)) (by simpa using H1.out.sum) (by simp))
    clear hb3 hl3
    go_wp2_with fail
    refine (string_calls _ _ _ w3 H3.out.bl H3.out.lt).mono ?_
    rintro e w4 ⟨rfl, hl4⟩
    have H4 := Lib.hid (H3.out.fin hl4)
    clear hl4
    have hsum : acc ++ L (M r) = out := H1.out.sum
    rw [hsum]
    have c1 := H4.out.1.cell
    have f1 := H4.out.1.frozen
    have c2 := H4.out.2.1.cell
    have f2 := H4.out.2.1.frozen
    clear hsum
    go_wp2
    refine leaves_cons (f := 166) (args := #[.pointer (some ⟨w.heap.size, 0, none⟩), .pointer (some ⟨w.heap.size + 1, 0, none⟩)]) (by simp) (by simp [go_sem]) ?_
    refine (idle255 _ _ _).mono ?_
    rintro e u' w'' ⟨rfl, rfl, rfl⟩
    have hb := (H4.out.2.2.setCell (p := ⟨w.heap.size, 0, none⟩) (Nat.le_refl _) (.string (M out))).setCell (p := ⟨w.heap.size + 1, 0, none⟩) (by show w.heap.size ≤ w.heap.size + 1; omega) (.int .i64 0)
    simp [Leaves, settle, results, Tryz.results136, go_sem, c1, c2, hb]
  | more u name v behind o3 hu hn he =>
    have hsum := HX.out.sum
    have hlen := HX.out.len
    have hC1 : Lib.cut (u ++ 38 :: (name ++ 59 :: behind)) [38] = (u, name ++ 59 :: behind, true) := cut_hit hu
    have hC2 : Lib.cut (name ++ 59 :: behind) [59] = (name, behind, true) := cut_hit (refs_no hn)
    have HC1 := Lib.hid hC1
    have HC2 := Lib.hid hC2
    have hl : acc.length + (id u).length + v.length + o3.length ≤ 4294967000 := by
     simp only [List.length_append] at hroom
     omega
    have hl2 : u.length + 1 + name.length + 1 + behind.length < 4294967000 := by
     simp only [List.length_append, List.length_cons] at hlen
     omega
    have HL := Lib.hid hl
    have HL2 := Lib.hid hl2
    have HS := Lib.hid (show (acc ++ L (M u)) ++ (v ++ o3) = out by rw [← hsum]; simp)
    have HN := Lib.hid hn
    have HE2 := Lib.hid he
    clear hu hl hl2 hroom hsum hlen hC1 hC2 hn he
    go_wp2_with fail
    refine (cut_calls _ [38] wr (HG.out.below HX.out.below) (by have := HX.out.len; omega)).mono ?_
    rintro e w1 ⟨rfl, h1⟩
    rw [HC1.out]
    have H1 := Lib.hid (HX.out.low h1)
    clear h1
    go_wp2_with fail
    refine (id218 (M u) w1).mono ?_
    rintro e w2 ⟨rfl, rfl⟩
    go_wp2_with fail
    refine (write_calls _ _ acc (M u) w1 H1.out.bl (by have := HL.out; have e1 : (M u).size = (id u).length := rfl; omega) H1.out.lt).mono ?_
    rintro e w3 ⟨rfl, hb3, hl3⟩
    have H3 := Lib.hid (H1.out.put (r' := 38 :: (name ++ 59 :: behind)) (o2' := v ++ o3) hl3 hb3 (Exp.more [] name v behind o3 (by simp) HN.out HE2.out) HS.out (by simp))
    clear hb3 hl3
    go_wp2_with fail
    refine (cut_calls (name ++ 59 :: behind) [59] w3 (HG.out.below H3.out.below) (by have := HL2.out; simp only [List.length_append, List.length_cons]; omega)).mono ?_
    rintro e w4 ⟨rfl, h4⟩
    rw [HC2.out]
    have H4 := Lib.hid (H3.out.low h4)
    clear h4
    go_wp2_with fail
    refine (named_any name v HN.out w4).mono ?_
    rintro e w5 ⟨rfl, h5⟩
    have H5 := Lib.hid (H4.out.low h5)
    clear h5
    go_wp2_with fail
    refine (write_calls _ _ (acc ++ L (M u)) (M v) w5 H5.out.bl (by have := HL.out; have e1 : (L (M u)).length = (id u).length := rfl; have e2 : (M v).size = v.length := rfl; rw [List.length_append]; omega) H5.out.lt).mono ?_
    rintro e w6 ⟨rfl, hb6, hl6⟩
    have H6 := Aside0.mk (H5.out.put (r' := behind) (o2' := o3) hl6 hb6 HE2.out (by rw [List.append_assoc]; exact HS.out) (by simp only [List.length_append, List.length_cons]; omega))
    clear hb6 hl6
    go_wp2
    go_roundw
    case rel => exact ⟨behind, _, o3, rfl, H6⟩
    case measure =>
     show behind.length < (u ++ 38 :: (name ++ 59 :: behind)).length
     simp only [List.length_append, List.length_cons]
     omega
theorem expand_text (s out : Bs) (w : World) (hG : Glob w) (hs : s.length < 4294967000) (h : Exp id s out) (ho : out.length ≤ 4294967000) :
  Calls Tryz.prog 101 #[.string (M s)] w fun e w' => e = .returned (.tuple #[.string (M out), .int .i64 0]) ∧ Below w.heap.size w w' := by
 go_enter Tryz.func101, Tryz.ntmps101
 go_wp2_with fail
 refine (expanded_text s out w hG hs h ho).mono ?_
 rintro e w1 ⟨rfl, h1⟩
 clear h
 go_wp2
 go_ret2
 exact ⟨rfl, h1⟩
theorem BTab.same {W W' : World} {p : Nat} (h : BTab W p) (e : W'.heap[p]? = W.heap[p]?) : BTab W' p := by
 obtain ⟨cs, hb, r⟩ := h
 exact ⟨cs, e.trans hb, r⟩
theorem tabs_blank : Tabs 194 blankL BTab where
 set := fun {W p b v0 v1 v2 v3 v4} i y h h5 => by
  obtain ⟨cs, hb, r⟩ := h
  have : p ≠ b := ne_of_type hb h5 (by decide)
  exact ⟨cs, (Below.heap_setCell _ _ _ _ (by exact this)).trans hb, r⟩
 drew := fun h => h
 below := fun h hb => h.same (hb.block _ h.lt)
 build := fun b g c v0 v1 v2 v3 w h5 hr hg => buildB_calls b g c v0 v1 v2 v3 w h5 hr hg
def noBlank (l : Bs) : Prop := ∀ c ∈ l, c ≠ 9 ∧ c ≠ 10 ∧ c ≠ 13
set_option maxRecDepth 100000 in
set_option maxHeartbeats 1000000 in
theorem brep_calls (p : Nat) (s : Bs) (w : World) (hT : BTab w p) (hs : noBlank s) (hl : s.length < 4294967000) :
  Calls Tryz.prog 245 #[.pointer (some ⟨p, 0, none⟩), .string (M s)] w fun e w' => e = .returned (.string (M s)) ∧ w = w' := by
 obtain ⟨cs, hb, hz, hc⟩ := hT
 have HC := Lib.hid hc
 have HS := Lib.hid hs
 have hsz : (M s).size = s.length := rfl
 have HZ := Lib.hid hsz
 have hn73 : (binOp .eql 42 (.slice none 0 0) (.slice none 0 0)).run Tryz.prog w = .ok (.bool true) w := by kernel_rfl
 have hu321 := Tryz.underlying193
 have hlen : (M s).size ≤ 9223372036854775807 := by rw [hsz]; omega
 clear hc hs hsz
 go_enter Tryz.func245, Tryz.ntmps245
 go_wp2_with fail
 go_loop [6, 5] (fun v6 v5 => ∃ (k : Nat), v6 = .int .i64 k ∧ v5 = .slice none 0 0 ∧ k ≤ (M s).size) (fun v6 _ => (M s).size - (intOf v6).toNat)
 case atStart => exact ⟨0, rfl, rfl, by omega⟩
 case round =>
  obtain ⟨k, rfl, rfl, hk⟩ := hrel
  by_cases hlt : k < (M s).size
  ·have hm := HS.out ((M s)[k]'hlt) (List.getElem_mem (l := s) hlt)
   have hb1 : ((M s)[k]'hlt).toNat < 256 := UInt8.toNat_lt _
   have hcell : w.cell? ⟨p, ((M s)[k]'hlt).toNat, none⟩ = some (.int .u8 (((M s)[k]'hlt).toNat : Int)) := by
    have := HC.out ((M s)[k]'hlt).toNat hb1 (fun e => hm.1 (UInt8.toNat_inj.1 e)) (fun e => hm.2.1 (UInt8.toNat_inj.1 e)) (fun e => hm.2.2 (UInt8.toNat_inj.1 e))
    simp [World.cell?, hb, this]
   clear hm
   go_wp2
   go_round
   case rel => exact ⟨k + 1, by go_num, rfl, by omega⟩
   case measure => simp [intOf]; omega
  ·go_wp2
   go_ret
   exact ⟨rfl, rfl⟩
set_option maxRecDepth 100000 in
theorem replB_calls (b : Nat) (s : Bs) (w : World) (h : Rep 194 blankL BTab w b) (hs : noBlank s) (hl : s.length < 4294967000) :
  Calls Tryz.prog 47 #[.pointer (some ⟨b, 0, none⟩), .string (M s)] w fun e w' => e = .returned (.string (M s)) ∧ Rep 194 blankL BTab w' b ∧ Off (fun k => k = b) w w' := by
 have hmf : ∀ (fn : Fn) (first cap : Array Value) (w : World), (Instr.makeFunc fn first cap).run Tryz.prog w = .ok (.func fn first cap) w := fun _ _ _ _ => rfl
 have H := Lib.hid h
 have HS := Lib.hid hs
 clear h hs
 go_enter Tryz.func47, Tryz.ntmps47
 go_wp2_with fail
 refine (do_rep tabs_blank b w H.out).mono ?_
 rintro e w1 ⟨rfl, ⟨p, v4, h5, hp⟩, ho⟩
 have c3 : w1.cell? ⟨b, 3, none⟩ = some (.iface 194 (.pointer (some ⟨p, 0, none⟩))) := (h5.cell 3).trans rfl
 have HB := Lib.hid (And.intro h5 (And.intro hp ho))
 clear h5 hp ho
 go_wp2_with fail
 refine (brep_calls p s w1 HB.out.2.1 HS.out hl).mono ?_
 rintro e w2 ⟨rfl, rfl⟩
 go_wp2_with fail
 go_ret
 exact ⟨rfl, .inr ⟨p, v4, HB.out.1, HB.out.2.1⟩, HB.out.2.2⟩
theorem Off.past {S : Nat → Prop} {w wr wr' : World} {B : Nat} (h : Off S w wr) (hb : Below B wr wr') (hB : w.heap.size ≤ B) : Off S w wr' :=
 ⟨hb.os.trans h.os, hb.tape.trans h.tape, hb.output.trans h.output, Nat.le_trans h.size hb.size, fun k hk hn => (hb.block k (by omega)).trans (h.block k hk hn)⟩
theorem Rep.kept {W W' : World} {b n : Nat} {cs : Array Value} (h : Rep 194 blankL BTab W b) (hn : W.heap[n]? = some (.cells cs 44 (0, 0))) (hk : Lib.OthersKept 5 (some n) W W') : Rep 194 blankL BTab W' b := by
 have key : ∀ {k : Nat} {c : Array Value} {t : TypeId}, W.heap[k]? = some (.cells c t (0, 0)) → t ≠ 44 → t ≠ 5 → W'.heap[k]? = some (.cells c t (0, 0)) := fun {k c t} h1 h2 h3 =>
  hk k _ h1 (fun e => by
   have e := Option.some.inj e
   subst e
   rw [h1] at hn
   injection hn with hn
   injection hn with _ hn _
   exact h2 hn) (fun c' fz hh => by injection hh with _ h5 _; exact h3 h5)
 rcases h with ⟨g, c, h5, hr, ⟨cs', hcs⟩, hgb⟩ | ⟨p, v4, h5, cs', hb, hz, hc⟩
 ·have := key hcs (by decide) (by decide)
  exact .inl ⟨g, c, key h5 (by decide) (by decide), hr.same (this.trans hcs.symm), ⟨cs', this⟩, hgb⟩
 ·exact .inr ⟨p, v4, key h5 (by decide) (by decide), cs', key hb (by decide) (by decide), hz, hc⟩
theorem write_kept (B b : Nat) (l : Bs) (s : ByteArray) (w : World) (h : Bl B b l w) (hlen : l.length + s.size ≤ 140737488355328) (hBw : B ≤ w.heap.size) :
  Calls Tryz.prog 45 #[.pointer (some ⟨b, 0, none⟩), .string s] w fun e w' => e = .returned (.tuple #[.int .i64 s.size, .nilIface]) ∧ Bl B b (l ++ L s) w' ∧ Below B w w' ∧ Lib.OthersKept 5 (some b) w w' := by
 refine (Tryz.Builder_WriteString_k B b (Lib.byteCells l) s w h (by rw [Lib.byteCells_length]; exact hlen) hBw).mono ?_
 rintro e w' ⟨rfl, h1, h2, h3⟩
 refine ⟨rfl, .inr ?_, h2, h3⟩
 have e1 : Lib.byteCells (l ++ L s) = Lib.byteCells l ++ Lib.strCells s := by simp [Lib.byteCells, Lib.strCells, L]
 rw [e1]
 exact h1
theorem Bl.block {B b : Nat} {l : Bs} {w : World} (h : Bl B b l w) : ∃ cs, w.heap[b]? = some (.cells cs 44 (0, 0)) := by
 rcases h with ⟨_, v, hk, _⟩ | ⟨_, v, hk, _⟩
 ·exact ⟨_, hk⟩
 ·exact ⟨_, hk⟩
structure ValAt (w : World) (rb : Nat) (out r acc o2 : Bs) (wr : World) : Prop where
 exp : Exp blanks r o2
 nb : noBlank r
 sum : acc ++ o2 = out
 bl : Bl (w.heap.size + 2) (w.heap.size + 2) acc wr
 r1 : Boxed wr w.heap.size 9 (.string ⟨#[]⟩)
 r2 : Boxed wr (w.heap.size + 1) 28 (.int .i64 0)
 off : Off (fun k => k = rb) w wr
 rep : Rep 194 blankL BTab wr rb
 lt : rb < w.heap.size
 len : r.length < 4294967000
theorem ValAt.size {w : World} {rb : Nat} {out r acc o2 : Bs} {wr : World} (h : ValAt w rb out r acc o2 wr) : w.heap.size + 2 ≤ wr.heap.size := h.r2.lt
theorem ValAt.room {w : World} {rb : Nat} {out r acc o2 : Bs} {wr : World} (h : ValAt w rb out r acc o2 wr) : acc.length + o2.length = out.length := by rw [← h.sum, List.length_append]
theorem ValAt.low {w : World} {rb : Nat} {out r acc o2 : Bs} {wr wr' : World} (h : ValAt w rb out r acc o2 wr) (hb : Below wr.heap.size wr wr') : ValAt w rb out r acc o2 wr' :=
 ⟨h.exp, h.nb, h.sum, h.bl.below hb, (hb.block _ h.r1.lt).trans h.r1, (hb.block _ h.r2.lt).trans h.r2, h.off.trans (Off.of_below hb), h.rep.below tabs_blank hb, h.lt, h.len⟩
theorem ValAt.asked {w : World} {rb : Nat} {out r acc o2 : Bs} {wr wr' : World} (h : ValAt w rb out r acc o2 wr) (ho : Off (fun k => k = rb) wr wr') (hr : Rep 194 blankL BTab wr' rb) : ValAt w rb out r acc o2 wr' := by
 have hl := h.lt
 refine ⟨h.exp, h.nb, h.sum, ?_, (ho.block _ h.r1.lt (by omega)).trans h.r1, (ho.block _ h.r2.lt (by omega)).trans h.r2, h.off.trans ho, hr, h.lt, h.len⟩
 have key : ∀ {p : Value}, Lib.BuilderAtF 44 5 (w.heap.size + 2) (w.heap.size + 2) p (Lib.byteCells acc) wr → Lib.BuilderAtF 44 5 (w.heap.size + 2) (w.heap.size + 2) p (Lib.byteCells acc) wr' := by
  rintro p ⟨hB, v, hk, ⟨hl1, hr1⟩, hne⟩
  refine ⟨hB, v, (ho.block _ (Array.getElem?_eq_some_iff.1 hk).1 (by omega)).trans hk, ⟨hl1, ?_⟩, hne⟩
  rcases hr1 with hr1 | ⟨g, cap, cur, fz, e1, e2, e3, e4⟩
  ·exact .inl hr1
  ·exact .inr ⟨g, cap, cur, fz, e1, e2, (ho.block _ (Array.getElem?_eq_some_iff.1 e3).1 (by omega)).trans e3, e4⟩
 exact h.bl.elim (fun x => .inl (key x)) (fun x => .inr (key x))
theorem ValAt.put {w : World} {rb : Nat} {out r acc o2 r' acc' o2' : Bs} {wr wr' : World} (h : ValAt w rb out r acc o2 wr) (hb : Below (w.heap.size + 2) wr wr') (hk : Lib.OthersKept 5 (some (w.heap.size + 2)) wr wr') (hbl : Bl (w.heap.size + 2) (w.heap.size + 2) acc' wr') (he : Exp blanks r' o2') (hn : noBlank r') (hs : acc' ++ o2' = out) (hl : r'.length ≤ r.length) : ValAt w rb out r' acc' o2' wr' := by
 obtain ⟨cs, hcs⟩ := h.bl.block
 exact ⟨he, hn, hs, hbl, (hb.block _ (by omega)).trans h.r1, (hb.block _ (by omega)).trans h.r2, h.off.past hb (by omega), h.rep.kept hcs hk, h.lt, by have := h.len; omega⟩
theorem blanks_same {u : Bs} (h : noBlank u) : blanks u = u := by
 unfold blanks
 conv => rhs; rw [← List.map_id u]
 refine List.map_congr_left fun c hc => ?_
 obtain ⟨a, b, d⟩ := h c hc
 unfold blankB
 rw [if_neg (by simp [a, b, d])]
 rfl
theorem ValAt.fin {w : World} {rb : Nat} {out r acc o2 : Bs} {wr wr' : World} (h : ValAt w rb out r acc o2 wr) (hb : Below (w.heap.size + 2) wr wr') : Boxed wr' w.heap.size 9 (.string ⟨#[]⟩) ∧ Boxed wr' (w.heap.size + 1) 28 (.int .i64 0) ∧ Off (fun k => k = rb) w wr' :=
 ⟨(hb.block _ (by omega)).trans h.r1, (hb.block _ (by omega)).trans h.r2, h.off.past hb (by omega)⟩
set_option maxRecDepth 100000 in
set_option maxHeartbeats 1000000 in
theorem expanded_value (rb : Nat) (s out : Bs) (w : World) (hG : Gb rb w) (hR : Rep 194 blankL BTab w rb) (hrb : rb < w.heap.size) (hs : s.length < 4294967000) (hn : noBlank s) (h : Exp blanks s out) (ho : out.length ≤ 4294967000) :
  Calls Tryz.prog 136 #[.string (M s), .func (.func 47) #[.pointer (some ⟨rb, 0, none⟩)] #[]] w fun e w' => e = .returned (.tuple #[.string (M out), .int .i64 0]) ∧ Off (fun k => k = rb) w w' := by
 have hmf : ∀ (fn : Fn) (first cap : Array Value) (w : World), (Instr.makeFunc fn first cap).run Tryz.prog w = .ok (.func fn first cap) w := fun _ _ _ _ => rfl
 have HG := Lib.hid hG
 have HE := Lib.hid h
 have HR := Lib.hid hR
 have HNB := Lib.hid hn
 clear hG h hR hn
 go_enter_defers Tryz.func136, Tryz.ntmps136
 go_wp2_with fail
 go_loopw [0] (fun s0 wr => ∃ r acc o2, s0 = .string (M r) ∧ Aside0 (ValAt w rb out r acc o2 wr)) (fun s0 _ => strLen s0)
 case atStart =>
  refine ⟨s, [], out, rfl, ⟨⟨HE.out, HNB.out, rfl, ?_, ?_, ?_, ?_, ?_, hrb, hs⟩⟩⟩
  ·have := Bl.new ((w.alloc (.cells #[.string ⟨#[]⟩] 9)).alloc (.cells #[.int .i64 0] 28))
   simpa using this
  ·exact ((Boxed.new w 9 (.string ⟨#[]⟩)).alloc _).alloc _
  ·have := (Boxed.new (w.alloc (.cells #[.string ⟨#[]⟩] 9)) 28 (.int .i64 0)).alloc (.cells #[.pointer none, .slice none 0 0] 44)
   simpa using this
  ·exact Off.of_below ((((Below.refl _ w).alloc (Nat.le_refl _) _).alloc (by simp) _).alloc (by simp; omega) _)
  ·exact HR.out.below tabs_blank ((((Below.refl _ w).alloc (Nat.le_refl _) _).alloc (by simp) _).alloc (by simp; omega) _)
 case round =>
  obtain ⟨r, acc, o2, rfl, HX⟩ := hrel
  have hroom := HX.out.room
  cases HX.out.exp with
  | last _ hu =>
    have HC := Lib.hid (cut_none hu)
    have hl : acc.length + r.length ≤ 140737488355328 := by
     have : (blanks r).length = r.length := by simp [blanks]
     omega
    have hbr : blanks r = r := blanks_same HX.out.nb
    have HBR := Lib.hid hbr
    have HL := Lib.hid hl
    clear hu hl hroom hbr
    go_wp2_with fail
    refine (cut_calls r [38] wr (HG.out.off HX.out.off (fun k hk => by omega)).glob (by have := HX.out.len; omega)).mono ?_
    rintro e w1 ⟨rfl, h1⟩
    rw [HC.out]
    have H1 := Lib.hid (HX.out.low h1)
    clear h1
    go_wp2_with fail
    refine (replB_calls rb r w1 H1.out.rep H1.out.nb H1.out.len).mono ?_
    rintro e w2 ⟨rfl, hr2, ho2⟩
    have H2 := Lib.hid (H1.out.asked ho2 hr2)
    clear hr2 ho2
    go_wp2_with fail
    refine (write_kept _ _ acc (M r) w2 H2.out.bl HL.out H2.out.size).mono ?_
    rintro e w3 ⟨rfl, hb3, hl3, hk3⟩
    have H3 := Lib.hid (H2.out.put (r' := []) (o2' := []) hl3 hk3 hb3 (Exp.last [] (by simp)) (by intro c hc; cases hc) (by have := H2.out.sum; rw [HBR.out] at this; simpa using this) (by simp))
    clear hb3 hl3 hk3
    go_wp2_with fail
    refine (string_calls _ _ _ w3 H3.out.bl H3.out.size).mono ?_
    rintro e w4 ⟨rfl, hl4⟩
    have H4 := Lib.hid (H3.out.fin hl4)
    clear hl4
    have hsum : acc ++ L (M r) = out := by have := H1.out.sum; rw [HBR.out] at this; exact this
    rw [hsum]
    have c1 := H4.out.1.cell
    have f1 := H4.out.1.frozen
    have c2 := H4.out.2.1.cell
    have f2 := H4.out.2.1.frozen
    clear hsum
    go_wp2
    refine leaves_cons (f := 166) (args := #[.pointer (some ⟨w.heap.size, 0, none⟩), .pointer (some ⟨w.heap.size + 1, 0, none⟩)]) (by simp) (by simp [go_sem]) ?_
    refine (idle255 _ _ _).mono ?_
    rintro e u' w'' ⟨rfl, rfl, rfl⟩
    have hb := (H4.out.2.2.set ⟨w.heap.size, 0, none⟩ (.string (M out)) (.inr (Nat.le_refl _))).set ⟨w.heap.size + 1, 0, none⟩ (.int .i64 0) (.inr (by show w.heap.size ≤ w.heap.size + 1; omega))
    simp [Leaves, settle, results, Tryz.results136, go_sem, c1, c2, hb]
  | more u name v behind o3 hu hn he =>
    have hsum := HX.out.sum
    have hlen := HX.out.len
    have hC1 : Lib.cut (u ++ 38 :: (name ++ 59 :: behind)) [38] = (u, name ++ 59 :: behind, true) := cut_hit hu
    have hC2 : Lib.cut (name ++ 59 :: behind) [59] = (name, behind, true) := cut_hit (refs_no hn)
    have HC1 := Lib.hid hC1
    have HC2 := Lib.hid hC2
    have hl : acc.length + (blanks u).length + v.length + o3.length ≤ 4294967000 := by
     simp only [List.length_append] at hroom
     omega
    have hl2 : u.length + 1 + name.length + 1 + behind.length < 4294967000 := by
     simp only [List.length_append, List.length_cons] at hlen
     omega
    have HL := Lib.hid hl
    have HL2 := Lib.hid hl2
    have hnb := HX.out.nb
    have hbu : blanks u = u := blanks_same fun c hc => hnb c (List.mem_append_left _ hc)
    have HNV := Lib.hid (show noBlank behind from fun c hc => hnb c (by simp [hc]))
    have HNR := Lib.hid (show noBlank (38 :: (name ++ 59 :: behind)) from fun c hc => hnb c (List.mem_append_right _ hc))
    have HNU := Lib.hid (show noBlank u from fun c hc => hnb c (List.mem_append_left _ hc))
    have HS := Lib.hid (show (acc ++ L (M u)) ++ (v ++ o3) = out by rw [← hsum, hbu]; simp)
    have HUL := Lib.hid (show (blanks u).length = u.length by rw [hbu])
    have HN := Lib.hid hn
    have HE2 := Lib.hid he
    clear hu hl hl2 hroom hsum hlen hC1 hC2 hn he hnb hbu
    go_wp2_with fail
    refine (cut_calls _ [38] wr (HG.out.off HX.out.off (fun k hk => by omega)).glob (by have := HX.out.len; omega)).mono ?_
    rintro e w1 ⟨rfl, h1⟩
    rw [HC1.out]
    have H1 := Lib.hid (HX.out.low h1)
    clear h1
    go_wp2_with fail
    refine (replB_calls rb u w1 H1.out.rep HNU.out (by have := HL2.out; omega)).mono ?_
    rintro e w2 ⟨rfl, hr2, ho2⟩
    have H2 := Lib.hid (H1.out.asked ho2 hr2)
    clear hr2 ho2
    go_wp2_with fail
    refine (write_kept _ _ acc (M u) w2 H2.out.bl (by have := HL.out; have := HUL.out; have e1 : (M u).size = u.length := rfl; omega) H2.out.size).mono ?_
    rintro e w3 ⟨rfl, hb3, hl3, hk3⟩
    have H3 := Lib.hid (H2.out.put (r' := 38 :: (name ++ 59 :: behind)) (o2' := v ++ o3) hl3 hk3 hb3 (Exp.more [] name v behind o3 (by simp) HN.out HE2.out) HNR.out HS.out (by simp))
    clear hb3 hl3 hk3
    go_wp2_with fail
    refine (cut_calls (name ++ 59 :: behind) [59] w3 (HG.out.off H3.out.off (fun k hk => by omega)).glob (by have := HL2.out; simp only [List.length_append, List.length_cons]; omega)).mono ?_
    rintro e w4 ⟨rfl, h4⟩
    rw [HC2.out]
    have H4 := Lib.hid (H3.out.low h4)
    clear h4
    go_wp2_with fail
    refine (named_any name v HN.out w4).mono ?_
    rintro e w5 ⟨rfl, h5⟩
    have H5 := Lib.hid (H4.out.low h5)
    clear h5
    go_wp2_with fail
    refine (write_kept _ _ (acc ++ L (M u)) (M v) w5 H5.out.bl (by have := HL.out; have := HUL.out; have e1 : (L (M u)).length = u.length := rfl; have e2 : (M v).size = v.length := rfl; rw [List.length_append]; omega) H5.out.size).mono ?_
    rintro e w6 ⟨rfl, hb6, hl6, hk6⟩
    have H6 := Aside0.mk (H5.out.put (r' := behind) (o2' := o3) hl6 hk6 hb6 HE2.out HNV.out (by rw [List.append_assoc]; exact HS.out) (by simp only [List.length_append, List.length_cons]; omega))
    clear hb6 hl6 hk6
    go_wp2
    go_roundw
    case rel => exact ⟨behind, _, o3, rfl, H6⟩
    case measure =>
     show behind.length < (u ++ 38 :: (name ++ 59 :: behind)).length
     simp only [List.length_append, List.length_cons]
     omega
set_option maxRecDepth 100000 in
theorem value_calls (s out : Bs) (w : World) (hG : Glob w) (hs : s.length < 4294967000) (hn : noBlank s) (h : Exp blanks s out) (ho : out.length ≤ 4294967000) :
  Calls Tryz.prog 133 #[.string (M s)] w fun e w' => e = .returned (.tuple #[.string (M out), .int .i64 0]) ∧ Below w.heap.size w w' := by
 have hmf : ∀ (fn : Fn) (first cap : Array Value) (w : World), (Instr.makeFunc fn first cap).run Tryz.prog w = .ok (.func fn first cap) w := fun _ _ _ _ => rfl
 have HG := Lib.hid hG
 have HE := Lib.hid h
 have HN := Lib.hid hn
 clear hG h hn
 have HR := Lib.hid (show StrRow (w.alloc (.cells #[.string ⟨#[9]⟩, .string ⟨#[32]⟩, .string ⟨#[10]⟩, .string ⟨#[32]⟩, .string ⟨#[13]⟩, .string ⟨#[32]⟩] 9)) w.heap.size blankL from fun j hj => by
  have hb := World.alloc_heap_new w (.cells #[.string ⟨#[9]⟩, .string ⟨#[32]⟩, .string ⟨#[10]⟩, .string ⟨#[32]⟩, .string ⟨#[13]⟩, .string ⟨#[32]⟩] 9)
  unfold World.cell?
  rw [hb]
  have hj6 : j < 6 := hj
  rcases (show j = 0 ∨ j = 1 ∨ j = 2 ∨ j = 3 ∨ j = 4 ∨ j = 5 by omega) with rfl | rfl | rfl | rfl | rfl | rfl <;> rfl)
 go_enter Tryz.func133, Tryz.ntmps133
 go_wp2_with fail
 refine (newrep_calls w.heap.size 6 blankL _ HR.out (by decide) (by decide) (by decide)).mono ?_
 rintro e w1 ⟨rb, rfl, hb1, hrb, hf⟩
 have hb0 : Below w.heap.size w w1 := ((Below.refl _ w).alloc (Nat.le_refl _) _).trans (hb1.mono (by simp))
 have hlt : rb < w1.heap.size := by obtain ⟨g, c, h5, _⟩ := hf; exact h5.lt
 have hge : w.heap.size ≤ rb := by rw [World.size_alloc] at hrb; omega
 have H1 := Lib.hid (And.intro hb0 (And.intro hlt (And.intro hge hf)))
 clear hb0 hlt hge hf hb1 hrb
 go_wp2_with fail
 refine (expanded_value rb s out w1 ⟨w, HG.out, H1.out.2.2.1, H1.out.1⟩ (.inl H1.out.2.2.2) H1.out.2.1 hs HN.out HE.out ho).mono ?_
 rintro e w2 ⟨rfl, h2⟩
 have H2 := Lib.hid h2
 clear h2
 go_wp2
 go_ret2
 refine ⟨rfl, H1.out.1.trans ⟨H2.out.os, H2.out.tape, H2.out.output, ?_, fun k hk => ?_⟩⟩
 ·exact H2.out.size
 ·exact H2.out.block k (Nat.lt_of_lt_of_le hk H1.out.1.size) (fun e => by have := H1.out.2.2.1; omega)
theorem fail_ok (w : World) : Calls Tryz.prog 102 #[.int .i64 0] w fun e w' => e = .returned (.tuple #[]) ∧ w = w' := by
 go_enter Tryz.func102, Tryz.ntmps102
 go_wp2
 go_end0
 exact ⟨rfl, rfl⟩
theorem must_yes (w : World) : Calls Tryz.prog 91 #[.bool true] w fun e w' => e = .returned (.tuple #[]) ∧ w = w' := (must_ok w).mono fun _ _ h => ⟨h.1, h.2.symm⟩
theorem equals_can {w : World} {b base : Nat} {q : UInt8} {u r : Bs} {ts : List Tok} {o : Value} (h : Can w b base (61 :: q :: (u ++ q :: r)) ts o) (hq : q = 34 ∨ q = 39) (hu : ∀ c ∈ u, c ≠ q) :
  Calls Tryz.prog 127 #[.pointer (some ⟨b, 0, none⟩)] w fun e w' => e = .returned (.string (M u)) ∧ Only b w w' ∧ Can w' b base r ts o := by
 refine (equals_calls b q u r o w h.gb hq h.sc.scan (by have := h.len; simp only [List.length_cons] at this; omega) (cut_hit hu)).mono ?_
 rintro e w' ⟨rfl, ho, hs⟩
 exact ⟨rfl, ho, h.only ho hs (by simp only [List.length_cons, List.length_append]; omega)⟩
theorem contains_one (s : Bs) (c : UInt8) (w : World) (h : s.contains c = false) : Calls Tryz.prog 41 #[.string (M s), .string ⟨#[c]⟩] w fun e w' => e = .returned (.bool false) ∧ w = w' := by
 refine (Tryz.strings_Contains_one (M s) c w).mono ?_
 rintro e w' ⟨rfl, rfl⟩
 have : Lib.indexByte s c = -1 := by
  have key : ∀ (l : Bs), l.contains c = false → Lib.indexByte l c = -1 := by
   intro l
   induction l with
   | nil => intro _; rfl
   | cons d l ih =>
     intro hd
     rw [List.contains_cons, Bool.or_eq_false_iff] at hd
     unfold Lib.indexByte
     have h1 : (d == c) = false := by
      have := hd.1
      rw [beq_eq_false_iff_ne] at this ⊢
      exact this.symm
     rw [h1, ih hd.2]
     rfl
  exact key s h
 refine ⟨?_, rfl⟩
 show Ending.returned (.bool (decide (0 ≤ Lib.indexByte s c))) = _
 rw [this]
 rfl
set_option maxRecDepth 100000 in
theorem attr_can {w : World} {b base : Nat} {n u v r : Bs} {q : UInt8} {ts : List Tok} {o : Value} (h : Can w b base (n ++ 61 :: q :: (u ++ q :: r)) ts o) (hq : q = 34 ∨ q = 39) (hn : Nm (n ++ 61 :: q :: (u ++ q :: r)) n (61 :: q :: (u ++ q :: r)))
  (hu : ∀ c ∈ u, c ≠ q ∧ c ≠ 60 ∧ c ≠ 9 ∧ c ≠ 10 ∧ c ≠ 13) (he : Exp blanks u v) (hv : v.length ≤ 4294967000) :
  Calls Tryz.prog 97 #[.pointer (some ⟨b, 0, none⟩)] w fun e w' => e = .returned (.agg #[.string (M n), .string (M v)]) ∧ Only b w w' ∧ Can w' b base r ts o := by
 have H0 := Lib.hid h
 have H := Lib.hid (h.below ((Below.refl _ w).alloc (Nat.le_refl _) (.cells #[.string ⟨#[]⟩, .string ⟨#[]⟩] 144)))
 have HB := Lib.hid (show Only b w (w.alloc (.cells #[.string ⟨#[]⟩, .string ⟨#[]⟩] 144)) from Off.of_below ((Below.refl _ w).alloc (Nat.le_refl _) _))
 have HK := Lib.hid (show Blk (w.alloc (.cells #[.string ⟨#[]⟩, .string ⟨#[]⟩] 144)) w.heap.size #[.string ⟨#[]⟩, .string ⟨#[]⟩] 144 from Blk.new _ _ _)
 have HBL := Lib.hid h.sc.scan.lt
 have HN := Lib.hid hn
 have HU := Lib.hid hu
 have HE := Lib.hid he
 have hlu : u.length < 4294967000 := by have := h.len; simp only [List.length_cons, List.length_append] at this; omega
 have HLT := Lib.hid (show u.contains 60 = false by
  cases hc : u.contains 60 with
  | false => rfl
  | true => exact absurd rfl (hu 60 (List.contains_iff_mem.1 hc)).2.1)
 clear h hn hu he
 go_enter Tryz.func97, Tryz.ntmps97
 go_wp2_with fail
 refine (name_nm H.out HN.out).mono ?_
 rintro e w1 ⟨rfl, ho1, h1⟩
 have HK1 := Lib.hid (HK.out.off ho1 (fun e => by have := HBL.out; omega))
 have HO1 := Lib.hid (HB.out.trans ho1)
 have H1 := Lib.hid h1
 clear ho1 h1
 go_wp2_with fail
 refine (equals_can H1.out hq (fun c hc => (HU.out c hc).1)).mono ?_
 rintro e w2 ⟨rfl, ho2, h2⟩
 have HK2 := Lib.hid (HK1.out.off ho2 (fun e => by have := HBL.out; omega))
 have HO2 := Lib.hid (HO1.out.trans (ho2.mono fun _ _ h => h))
 have H2 := Lib.hid h2
 clear ho2 h2
 go_wp2_with fail
 refine (contains_one u 60 w2 HLT.out).mono ?_
 rintro e w3 ⟨rfl, rfl⟩
 go_wp2_with fail
 refine (must_yes w2).mono ?_
 rintro e w3 ⟨rfl, rfl⟩
 go_wp2_with fail
 refine (value_calls u v w2 H2.out.gb.glob hlu (fun c hc => (HU.out c hc).2.2) HE.out hv).mono ?_
 rintro e w3 ⟨rfl, h3⟩
 have HK3 := Lib.hid (HK2.out.below h3 HK2.out.lt)
 have HO3 := Lib.hid (HO2.out.trans (Off.of_below h3))
 have H3 := Lib.hid (H2.out.below h3)
 clear h3
 go_wp2_with fail
 refine (fail_ok w3).mono ?_
 rintro e w4 ⟨rfl, rfl⟩
 have c0 : w3.cell? ⟨w.heap.size, 0, none⟩ = some (.string ⟨#[]⟩) := HK3.out.cell 0
 have c1 : w3.cell? ⟨w.heap.size, 1, none⟩ = some (.string ⟨#[]⟩) := HK3.out.cell 1
 have f0 := HK3.out.frozen 0
 have f1 := HK3.out.frozen 1
 have hu220 := Tryz.underlying144
 go_wp2
 have hne : b ≠ w.heap.size := by have := HBL.out; omega
 have ho4 : Only b w ((w3.setCell ⟨w.heap.size, 0, none⟩ (.string (M n))).setCell ⟨w.heap.size, 1, none⟩ (.string (M v))) := (HO3.out.set ⟨w.heap.size, 0, none⟩ _ (.inr (Nat.le_refl _))).set ⟨w.heap.size, 1, none⟩ _ (.inr (Nat.le_refl _))
 have hs4 : Scan ((w3.setCell ⟨w.heap.size, 0, none⟩ (.string (M n))).setCell ⟨w.heap.size, 1, none⟩ (.string (M v))) b (M r) o :=
  (Below.heap_setCell _ _ _ _ (show b ≠ w.heap.size from hne)).trans ((Below.heap_setCell _ _ _ _ (show b ≠ w.heap.size from hne)).trans H3.out.sc.scan)
 refine bodyPost_ret (v := .agg #[.string (M n), .string (M v)]) (by simp [results, Tryz.results97, go_sem, c0, c1]) rfl ⟨rfl, ho4, H0.out.only ho4 hs4 ?_⟩
 simp only [List.length_cons, List.length_append]
 omega
theorem indexByte_none {u : Bs} {c : UInt8} (h : ∀ d ∈ u, d ≠ c) : Lib.indexByte u c = -1 := by
 induction u with
 | nil => rfl
 | cons d l ih =>
   unfold Lib.indexByte
   rw [beq_eq_false_iff_ne.2 (h d List.mem_cons_self), ih fun e he => h e (List.mem_cons_of_mem _ he)]
   rfl
theorem indexByte_at {u t : Bs} {c : UInt8} (h : ∀ d ∈ u, d ≠ c) : Lib.indexByte (u ++ c :: t) c = (u.length : Int) := by
 induction u with
 | nil => simp [Lib.indexByte]
 | cons d l ih =>
   rw [List.cons_append]
   unfold Lib.indexByte
   rw [beq_eq_false_iff_ne.2 (h d List.mem_cons_self), ih fun e he => h e (List.mem_cons_of_mem _ he)]
   have : ((l.length : Int) == -1) = false := by rw [beq_eq_false_iff_ne]; omega
   simp [this]
theorem contains_amp (s : Bs) : decide (0 ≤ Lib.indexByte s 38) = s.contains 38 := by
 induction s with
 | nil => rfl
 | cons d l ih =>
   unfold Lib.indexByte
   rw [List.contains_cons, ← ih]
   by_cases h : d = 38
   ·subst h; simp
   ·rw [beq_eq_false_iff_ne.2 h]
    have h2 : ((38 : UInt8) == d) = false := beq_eq_false_iff_ne.2 (fun e => h e.symm)
    rw [h2]
    by_cases h3 : Lib.indexByte l 38 = -1
    ·simp [h3]
    ·have := Lib.indexByte_ge l 38
     have h4 : (Lib.indexByte l 38 == -1) = false := beq_eq_false_iff_ne.2 h3
     simp [h4]
     omega
set_option maxRecDepth 100000 in
set_option maxHeartbeats 2000000 in
theorem chars_can {w : World} {b base : Nat} {u v r : Bs} {ts : List Tok} {o : Value} (h : Can w b base (u ++ r) ts o) (hu : ∀ c ∈ u, c ≠ 60) (hr : r = [] ∨ ∃ t, r = 60 :: t) (hi : Lib.index u [93, 93, 62] = -1) (he : Exp id u v) (hv : v.length ≤ 4294967000) :
  Calls Tryz.prog 65 #[.pointer (some ⟨b, 0, none⟩)] w (Stepped b base r (ts ++ [⟨2, [], [], u.contains 38, v⟩]) w) := by
 obtain ⟨bb, hbb⟩ : ∃ bb, u.contains 38 = bb := ⟨_, rfl⟩
 rw [hbb]
 have HBB := Lib.hid hbb
 clear hbb
 obtain ⟨m, hm⟩ := h.gb.glob.max
 have hlen := h.len
 have H := Lib.hid h
 have HE := Lib.hid he
 have hc : w.cell? ⟨b, 0, none⟩ = some (.string (M (u ++ r))) := h.sc.scan.cell 0
 have hf := h.sc.scan.frozen 0
 have hx : (M (u ++ r)).size = u.length + r.length := by show (u ++ r).length = _; exact List.length_append
 have hib : ((M (u ++ r)).size = u.length ∧ Lib.indexByte (u ++ r) 60 = -1) ∨ Lib.indexByte (u ++ r) 60 = (u.length : Int) := by
  rcases hr with rfl | ⟨t, rfl⟩
  ·exact .inl ⟨by rw [hx]; rfl, by rw [List.append_nil]; exact indexByte_none hu⟩
  ·exact .inr (indexByte_at hu)
 have he1 : (M (u ++ r)).extract 0 u.length = M u := by
  rw [M_take]
  show M ((u ++ r).take u.length) = M u
  rw [List.take_left]
 have he2 : (M (u ++ r)).extract u.length (M (u ++ r)).size = M r := by
  rw [M_drop]
  show M ((u ++ r).drop u.length) = M r
  rw [List.drop_left]
 have HM := Lib.hid hm
 have HI := Lib.hid hi
 have HX := Lib.hid hx
 have HE1 := Lib.hid he1
 have HE2 := Lib.hid he2
 have hul : u.length < 4294967000 := by rw [List.length_append] at hlen; omega
 clear h he hu hr hi hm hx he1 he2 hlen
 generalize u ++ r = s at *
 rcases hib with ⟨hsz, hib⟩ | hib
 ·have HIB := Lib.hid hib
  have HSZ := Lib.hid hsz
  clear hib hsz
  have hr0 : r = [] := List.eq_nil_of_length_eq_zero (by have := HX.out; have := HSZ.out; omega)
  subst hr0
  go_enter Tryz.func65, Tryz.ntmps65
  go_wp2_with fail
  refine (Tryz.strings_IndexByte (M s) 60 w).mono ?_
  rintro e w1 ⟨rfl, rfl⟩
  rw [show Lib.indexByte (M s).data.toList (60 : Int).toNat.toUInt8 = -1 from HIB.out]
  have hsz := HSZ.out
  go_wp2_with fail
  clear hsz
  rw [HE1.out, show ByteArray.empty = M [] from rfl]
  have HW1 := Lib.hid ((Off.refl (fun k => k = b) w1).set ⟨b, 0, none⟩ (.string (M [])) (.inl rfl))
  have H1 := Lib.hid (H.out.only (s' := []) HW1.out (H.out.sc.scan.set 0 _) (by have := HX.out; have e1 : (M s).size = s.length := rfl; omega))
  have hm1 := Lib.hid (show ∃ m, (w1.setCell ⟨b, 0, none⟩ (.string (M []))).cell? ⟨2, 0, none⟩ = some (.int .i64 m) from H1.out.gb.glob.max)
  clear hc hf
  generalize w1.setCell ⟨b, 0, none⟩ (.string (M [])) = W at *
  obtain ⟨m', hm'⟩ := hm1.out
  have HM' := Lib.hid hm'
  clear hm' hm1
  refine (Tryz.strings_Contains (M u) ⟨#[93, 93, 62]⟩ m' W (by show u.length < _; omega) HM'.out).mono ?_
  rintro e w2 ⟨rfl, rfl⟩
  rw [show Lib.contains (M u).data.toList (⟨#[93, 93, 62]⟩ : ByteArray).data.toList = false from by
   show decide (0 ≤ Lib.index u [93, 93, 62]) = false
   rw [HI.out]
   rfl]
  go_wp2_with fail
  refine (must_yes w2).mono ?_
  rintro e w3 ⟨rfl, rfl⟩
  go_wp2_with fail
  refine (expand_text u v w2 H1.out.gb.glob (by omega) HE.out hv).mono ?_
  rintro e w3 ⟨rfl, h3⟩
  have H3 := Lib.hid (H1.out.below h3)
  have HO3 := Lib.hid (((och base HW1.out)).trans (Off.of_below h3))
  clear h3
  go_wp2_with fail
  refine (fail_ok w3).mono ?_
  rintro e w4 ⟨rfl, rfl⟩
  go_wp2_with fail
  refine (Tryz.strings_Contains_one (M u) 38 w3).mono ?_
  rintro e w4 ⟨rfl, rfl⟩
  rw [show decide (0 ≤ Lib.indexByte (M u).data.toList 38) = bb from (contains_amp u).trans HBB.out]
  go_wp2_with fail
  refine (put_bare H3.out 2 [] bb v).mono ?_
  rintro e w5 h5
  have H5 := Lib.hid (h5.after HO3.out)
  obtain ⟨o5, rfl, _⟩ := h5
  go_wp2
  go_end0
  exact H5.out
 ·have HIB := Lib.hid hib
  clear hib
  go_enter Tryz.func65, Tryz.ntmps65
  go_wp2_with fail
  refine (Tryz.strings_IndexByte (M s) 60 w).mono ?_
  rintro e w1 ⟨rfl, rfl⟩
  rw [show Lib.indexByte (M s).data.toList (60 : Int).toNat.toUInt8 = (u.length : Int) from HIB.out]
  have hle : u.length ≤ (M s).size := by have := HX.out; omega
  go_wp2_with fail
  rw [HE1.out, show (M s).extract (List.length u) (List.length s) = M r from HE2.out]
  have HW1 := Lib.hid ((Off.refl (fun k => k = b) w1).set ⟨b, 0, none⟩ (.string (M r)) (.inl rfl))
  have H1 := Lib.hid (H.out.only (s' := r) HW1.out (H.out.sc.scan.set 0 _) (by have := HX.out; have e1 : (M s).size = s.length := rfl; omega))
  have hm1 := Lib.hid (show ∃ m, (w1.setCell ⟨b, 0, none⟩ (.string (M r))).cell? ⟨2, 0, none⟩ = some (.int .i64 m) from H1.out.gb.glob.max)
  clear hc hf
  generalize w1.setCell ⟨b, 0, none⟩ (.string (M r)) = W at *
  obtain ⟨m', hm'⟩ := hm1.out
  have HM' := Lib.hid hm'
  clear hm' hm1
  refine (Tryz.strings_Contains (M u) ⟨#[93, 93, 62]⟩ m' W (by show u.length < _; omega) HM'.out).mono ?_
  rintro e w2 ⟨rfl, rfl⟩
  rw [show Lib.contains (M u).data.toList (⟨#[93, 93, 62]⟩ : ByteArray).data.toList = false from by
   show decide (0 ≤ Lib.index u [93, 93, 62]) = false
   rw [HI.out]
   rfl]
  go_wp2_with fail
  refine (must_yes w2).mono ?_
  rintro e w3 ⟨rfl, rfl⟩
  go_wp2_with fail
  refine (expand_text u v w2 H1.out.gb.glob (by omega) HE.out hv).mono ?_
  rintro e w3 ⟨rfl, h3⟩
  have H3 := Lib.hid (H1.out.below h3)
  have HO3 := Lib.hid (((och base HW1.out)).trans (Off.of_below h3))
  clear h3
  go_wp2_with fail
  refine (fail_ok w3).mono ?_
  rintro e w4 ⟨rfl, rfl⟩
  go_wp2_with fail
  refine (Tryz.strings_Contains_one (M u) 38 w3).mono ?_
  rintro e w4 ⟨rfl, rfl⟩
  rw [show decide (0 ≤ Lib.indexByte (M u).data.toList 38) = bb from (contains_amp u).trans HBB.out]
  go_wp2_with fail
  refine (put_bare H3.out 2 [] bb v).mono ?_
  rintro e w5 h5
  have H5 := Lib.hid (h5.after HO3.out)
  obtain ⟨o5, rfl, _⟩ := h5
  go_wp2
  go_end0
  exact H5.out
theorem C_map {α β : Type} (d : Kd α) (f : β → α) {w : World} {A : Option Addr} {n : Nat} {l : List β} (h : (Kd.iso d f).C w A n l) : d.C w A n (l.map f) := by
 refine ⟨by rw [List.length_map]; exact h.1, h.2.1, fun hn => ?_⟩
 obtain ⟨ad, e, hc⟩ := h.2.2 hn
 refine ⟨ad, e, fun j p hj => ?_⟩
 rw [List.getElem?_map] at hj
 cases hl : l[j]? with
 | none => rw [hl] at hj; cases hj
 | some x =>
   rw [hl] at hj
   cases hj
   exact hc j x hl
theorem pair_rd (l : List (Bs × Bs)) (k : Nat) (h : k < l.length) : rd_T144 (l.map toS) (k : Int) = ⟨M l[k].1, M l[k].2⟩ := by
 unfold rd_T144
 rw [Int.toNat_natCast, List.getD_eq_getElem?_getD, List.getElem?_map, List.getElem?_eq_getElem h]
 rfl
theorem pair_at {w : World} {A : Option Addr} {l : List (Bs × Bs)} (h : kPair.C w A l.length l) (k : Nat) (hk : k < l.length) :
  ∃ ad, A = some ad ∧ w.cell? (ad.add (k * 2)) = some (.string (M l[k].1)) ∧ w.cell? ⟨(ad.add (k * 2)).block, (ad.add (k * 2)).off + 1, none⟩ = some (.string (M l[k].2)) := by
 obtain ⟨ad, e, h0, h1⟩ := at_T144 (C_map k144 toS h) (k : Int) (by omega) (by omega)
 rw [pair_rd l k hk] at h0 h1
 exact ⟨ad, e, by simpa using h0, by simpa using h1⟩
theorem name_ne (p : Addr) (k v n : Bs) (w : World) (hc : w.cell? p = some (.string (M n))) (hn : k ≠ n) :
  Calls Tryz.prog 99 #[.agg #[.string (M k), .string (M v)], .pointer (some p)] w fun e w' => e = .returned (.bool false) ∧ Below w.heap.size w w' := by
 have hb : (n == k) = false := beq_eq_false_iff_ne.2 (fun e => hn e.symm)
 have hu220 := Tryz.underlying144
 have hc2 : (w.alloc (.cells #[.string (M k), .string (M v)] 144)).cell? p = some (.string (M n)) := by
  have hl := World.block_lt_of_cell? w p hc
  exact (((Below.refl w.heap.size w).alloc (Nat.le_refl _) (.cells #[.string (M k), .string (M v)] 144)).cell hl).trans hc
 clear hc hn
 go_enter Tryz.func99, Tryz.ntmps99
 go_wp2
 go_ret
 exact ⟨rfl, (Below.refl _ w).alloc (Nat.le_refl _) _⟩
set_option maxRecDepth 100000 in
set_option maxHeartbeats 1000000 in
theorem index_none (A : Option Addr) (c : Nat) (p : Addr) (l : List (Bs × Bs)) (n : Bs) (w : World) (hl : l.length ≤ 1000000) (hC : kPair.C w A l.length l) (hc : w.cell? p = some (.string (M n))) (hn : ∀ x ∈ l, x.1 ≠ n) :
  Calls Tryz.prog 134 #[.slice A l.length c, .func (.func 99) #[] #[.pointer (some p)]] w fun e w' => e = .returned (.int .i64 (-1)) ∧ Below w.heap.size w w' := by
 have HC := Lib.hid hC
 have HP := Lib.hid hc
 have HN := Lib.hid hn
 have HL := Lib.hid (World.block_lt_of_cell? w p hc)
 clear hC hc hn
 go_enter Tryz.func134, Tryz.ntmps134
 go_wp2_with fail
 go_loopw [8] (fun v8 wr => ∃ (k : Nat), v8 = .int .i64 k ∧ k ≤ l.length ∧ Aside0 (Below w.heap.size w wr)) (fun v8 _ => l.length - (intOf v8).toNat)
 case atStart => exact ⟨0, rfl, by omega, ⟨Below.refl _ _⟩⟩
 case round =>
  obtain ⟨k, rfl, hk, HB⟩ := hrel
  by_cases hlt : k < l.length
  ·obtain ⟨ad, rfl, c0, c1⟩ := pair_at (Kd.C_below (d := kPair) HC.out HB.out) k hlt
   have hcp := (HB.out.cell HL.out).trans HP.out
   have hne := HN.out l[k] (List.getElem_mem hlt)
   have HCP := Lib.hid hcp
   have HNE := Lib.hid hne
   clear hcp hne
   go_wp2_with fail
   refine (name_ne p l[k].1 l[k].2 n wr HCP.out HNE.out).mono ?_
   rintro e w1 ⟨rfl, h1⟩
   have H1 := Aside0.mk (HB.out.trans (h1.mono HB.out.size))
   clear h1
   go_wp2
   go_roundw
   case rel => exact ⟨k + 1, by go_num, by omega, H1⟩
   case measure => simp [intOf]; omega
  ·go_wp2
   go_ret
   exact ⟨rfl, HB.out⟩
theorem dup_none (A : Option Addr) (c : Nat) (p : Addr) (l : List (Bs × Bs)) (n : Bs) (w : World) (hl : l.length ≤ 1000000) (hC : kPair.C w A l.length l) (hc : w.cell? p = some (.string (M n))) (hn : ∀ x ∈ l, x.1 ≠ n) :
  Calls Tryz.prog 98 #[.slice A l.length c, .func (.func 99) #[] #[.pointer (some p)]] w fun e w' => e = .returned (.bool false) ∧ Below w.heap.size w w' := by
 go_enter Tryz.func98, Tryz.ntmps98
 go_wp2_with fail
 refine (index_none A c p l n w hl hC hc hn).mono ?_
 rintro e w1 ⟨rfl, h1⟩
 clear hc hn
 go_wp2
 go_ret
 exact ⟨rfl, h1⟩
abbrev At := Bs × Bs × Bs
def kAttr : Kd At := Kd.iso (Kd.pair Kd.string (Kd.pair Kd.string Kd.string)) (fun a => (M a.1, (M a.2.1, M a.2.2)))
theorem kAttr_openK {w : World} {a : At} {cs : List Value} (h : kAttr.K w a cs) : cs = [.string (M a.1), .string (M a.2.1), .string (M a.2.2)] := by
 obtain ⟨_, _, rfl, rfl, _, _, rfl, rfl, rfl⟩ := h
 rfl
theorem kAttr_mkM {w : World} {base : Nat} {ok : Nat → Prop} (a : At) : kAttr.M w base ok a [.string (M a.1), .string (M a.2.1), .string (M a.2.2)] := ⟨[_], [_, _], rfl, rfl, [_], [_], rfl, rfl, rfl⟩
theorem info38 : (Tryz.prog.info? 38).map (fun i => (i.zero, i.size, i.bytes)) = some (some (.agg #[(.string ⟨#[]⟩), (.string ⟨#[]⟩), (.string ⟨#[]⟩)]), 3, 48) := by kernel_rfl
theorem attr_at {w : World} {A : Option Addr} {l : List At} (h : kAttr.C w A l.length l) (k : Nat) (hk : k < l.length) :
  ∃ ad, A = some ad ∧ w.cell? (ad.add (k * 3)) = some (.string (M l[k].1)) ∧ w.cell? ⟨(ad.add (k * 3)).block, (ad.add (k * 3)).off + 1, none⟩ = some (.string (M l[k].2.1)) ∧ w.cell? ⟨(ad.add (k * 3)).block, (ad.add (k * 3)).off + 2, none⟩ = some (.string (M l[k].2.2)) := by
 obtain ⟨ad, c, e, _, hK, hc0⟩ := Kd.C_get h ([], [], []) (k : Int) (by omega) (by omega)
 have hc : ∀ j u, c[j]? = some u → w.cell? (ad.add (k * 3 + j)) = some u := fun j u h => by
  have := hc0 j u h
  rw [Int.toNat_natCast] at this
  exact this
 have hg : l.getD ((k : Int)).toNat ([], [], []) = l[k] := by rw [Int.toNat_natCast, List.getD_eq_getElem?_getD, List.getElem?_eq_getElem hk]; rfl
 rw [hg] at hK
 obtain rfl := kAttr_openK hK
 exact ⟨ad, e, hc 0 _ rfl, by rw [← add_field _ _ 1 (by omega)]; exact hc 1 _ rfl, by rw [← add_field _ _ 2 (by omega)]; exact hc 2 _ rfl⟩
theorem res_get {scope : List (Bs × Bs)} {l : List (Bs × Bs)} {ats : List At} (h : Res scope l ats) : ats.length = l.length ∧ ∀ k (hk : k < l.length) (hk2 : k < ats.length), V.resolveV (scope.map toS) l[k].1 true = (M ats[k].1, M ats[k].2.1, 0) ∧ ats[k].2.2 = l[k].2 ∧ ∀ a ∈ ats.take k, ¬ (a.1 = ats[k].1 ∧ a.2.1 = ats[k].2.1) := by
 induction h with
 | nil => exact ⟨rfl, fun k hk => absurd hk (by simp)⟩
 | snoc l ats k v u n hr he hd ih =>
   refine ⟨by simp [ih.1], fun j hj hj2 => ?_⟩
   rw [List.length_append, List.length_singleton] at hj hj2
   by_cases hjl : j < l.length
   ·have hja : j < ats.length := by omega
    have := ih.2 j hjl hja
    rw [List.getElem_append_left hjl, List.getElem_append_left hja, List.take_append_of_le_length (by omega)]
    exact this
   ·have hje : j = l.length := by omega
    subst hje
    have h1 : (l ++ [(k, v)])[l.length]'(by simp) = (k, v) := by simp
    have h2 : (ats ++ [(u, n, v)])[l.length]'(by simp; omega) = (u, n, v) := by
     rw [List.getElem_append_right (by omega)]
     simp
    rw [h1, h2, List.take_append_of_le_length (by omega), List.take_of_length_le (by omega)]
    exact ⟨he, rfl, hd⟩
theorem attr_ne (p q : Addr) (a : At) (u n : Bs) (w : World) (hp : w.cell? p = some (.string (M u))) (hq : w.cell? q = some (.string (M n))) (hn : ¬ (a.1 = u ∧ a.2.1 = n)) :
  Calls Tryz.prog 142 #[.agg #[.string (M a.1), .string (M a.2.1), .string (M a.2.2)], .pointer (some p), .pointer (some q)] w fun e w' => e = .returned (.bool false) ∧ Below w.heap.size w w' := by
 have hu185 := Tryz.underlying38
 have hb := (Below.refl w.heap.size w).alloc (Nat.le_refl _) (.cells #[.string (M a.1), .string (M a.2.1), .string (M a.2.2)] 38)
 have hp2 : (w.alloc (.cells #[.string (M a.1), .string (M a.2.1), .string (M a.2.2)] 38)).cell? p = some (.string (M u)) := (hb.cell (World.block_lt_of_cell? w p hp)).trans hp
 have hq2 : (w.alloc (.cells #[.string (M a.1), .string (M a.2.1), .string (M a.2.2)] 38)).cell? q = some (.string (M n)) := (hb.cell (World.block_lt_of_cell? w q hq)).trans hq
 clear hb
 by_cases h1 : a.1 = u
 ·have h2 : (a.2.1 == n) = false := beq_eq_false_iff_ne.2 fun e => hn ⟨h1, e⟩
  have h3 : (a.1 == u) = true := beq_iff_eq.2 h1
  clear hn h1 hp hq
  go_enter Tryz.func142, Tryz.ntmps142
  go_wp2
  go_ret
  exact ⟨rfl, (Below.refl _ w).alloc (Nat.le_refl _) _⟩
 ·have h3 : (a.1 == u) = false := beq_eq_false_iff_ne.2 h1
  clear hn h1 hp hq
  go_enter Tryz.func142, Tryz.ntmps142
  go_wp2
  go_ret
  exact ⟨rfl, (Below.refl _ w).alloc (Nat.le_refl _) _⟩
set_option maxRecDepth 100000 in
set_option maxHeartbeats 1000000 in
theorem index_none3 (A : Option Addr) (c : Nat) (p q : Addr) (l : List At) (u n : Bs) (w : World) (hl : l.length ≤ 1000000) (hC : kAttr.C w A l.length l) (hp : w.cell? p = some (.string (M u))) (hq : w.cell? q = some (.string (M n))) (hn : ∀ a ∈ l, ¬ (a.1 = u ∧ a.2.1 = n)) :
  Calls Tryz.prog 169 #[.slice A l.length c, .func (.func 142) #[] #[.pointer (some p), .pointer (some q)]] w fun e w' => e = .returned (.int .i64 (-1)) ∧ Below w.heap.size w w' := by
 have HC := Lib.hid hC
 have HP := Lib.hid hp
 have HQ := Lib.hid hq
 have HN := Lib.hid hn
 have HL := Lib.hid (And.intro (World.block_lt_of_cell? w p hp) (World.block_lt_of_cell? w q hq))
 clear hC hp hq hn
 go_enter Tryz.func169, Tryz.ntmps169
 go_wp2_with fail
 go_loopw [8] (fun v8 wr => ∃ (k : Nat), v8 = .int .i64 k ∧ k ≤ l.length ∧ Aside0 (Below w.heap.size w wr)) (fun v8 _ => l.length - (intOf v8).toNat)
 case atStart => exact ⟨0, rfl, by omega, ⟨Below.refl _ _⟩⟩
 case round =>
  obtain ⟨k, rfl, hk, HB⟩ := hrel
  by_cases hlt : k < l.length
  ·obtain ⟨ad, rfl, c0, c1, c2⟩ := attr_at (Kd.C_below (d := kAttr) HC.out HB.out) k hlt
   have HF := Lib.hid (And.intro ((HB.out.cell HL.out.1).trans HP.out) (And.intro ((HB.out.cell HL.out.2).trans HQ.out) (HN.out l[k] (List.getElem_mem hlt))))
   go_wp2_with fail
   refine (attr_ne p q l[k] u n wr HF.out.1 HF.out.2.1 HF.out.2.2).mono ?_
   rintro e w1 ⟨rfl, h1⟩
   have H1 := Aside0.mk (HB.out.trans (h1.mono HB.out.size))
   clear h1
   go_wp2
   go_roundw
   case rel => exact ⟨k + 1, by go_num, by omega, H1⟩
   case measure => simp [intOf]; omega
  ·go_wp2
   go_ret
   exact ⟨rfl, HB.out⟩
theorem dup_none3 (A : Option Addr) (c : Nat) (p q : Addr) (l : List At) (u n : Bs) (w : World) (hl : l.length ≤ 1000000) (hC : kAttr.C w A l.length l) (hp : w.cell? p = some (.string (M u))) (hq : w.cell? q = some (.string (M n))) (hn : ∀ a ∈ l, ¬ (a.1 = u ∧ a.2.1 = n)) :
  Calls Tryz.prog 141 #[.slice A l.length c, .func (.func 142) #[] #[.pointer (some p), .pointer (some q)]] w fun e w' => e = .returned (.bool false) ∧ Below w.heap.size w w' := by
 go_enter Tryz.func141, Tryz.ntmps141
 go_wp2_with fail
 refine (index_none3 A c p q l u n w hl hC hp hq hn).mono ?_
 rintro e w1 ⟨rfl, h1⟩
 clear hp hq hn
 go_wp2
 go_ret
 exact ⟨rfl, h1⟩
theorem resolve_pairs (A : Option Addr) (c : Nat) (scope : List (Bs × Bs)) (s : Bs) (attr : Bool) (u n : ByteArray) (w : World) (hG : Glob w) (hl : scope.length ≤ 1000000) (hC : kPair.C w A scope.length scope) (hs : s.length < 4294967281) (h : V.resolveV (scope.map toS) s attr = (u, n, 0)) :
  Calls Tryz.prog 105 #[.slice A scope.length c, .string (M s), .bool attr] w fun e w' => e = .returned (.tuple #[.string u, .string n, .int .i64 0]) ∧ Below w.heap.size w w' := by
 have hC2 := C_map k144 toS hC
 have hlm : (scope.map toS).length = scope.length := List.length_map ..
 rw [← hlm] at hC2 ⊢
 exact resolve_calls A c (scope.map toS) s attr u n w hG (by rw [hlm]; exact hl) hC2 hs h
set_option maxRecDepth 100000 in
set_option maxHeartbeats 2000000 in
theorem gattrs_calls (A B : Option Addr) (c d : Nat) (scope l : List (Bs × Bs)) (ats : List At) (w : World) (hG : Glob w) (hl : l.length ≤ 100000) (hsl : scope.length ≤ 1000000) (hkl : ∀ p ∈ l, p.1.length < 4294967281) (hA : kPair.C w A scope.length scope) (hB : kPair.C w B l.length l) (h : Res scope l ats) :
  Calls Tryz.prog 106 #[.slice A scope.length c, .slice B l.length d] w fun e w' => ∃ v, e = .returned (.tuple #[v, .int .i64 0]) ∧ kAttr.R 38 w' w.heap.size (fun _ => True) v ats ∧ Below w.heap.size w w' := by
 have hmf : ∀ (fn : Fn) (first cap : Array Value) (w : World), (Instr.makeFunc fn first cap).run Tryz.prog w = .ok (.func fn first cap) w := fun _ _ _ _ => rfl
 obtain ⟨hlen, hget⟩ := res_get h
 have HG := Lib.hid hG
 have HA := Lib.hid hA
 have HB := Lib.hid hB
 have HL := Lib.hid (And.intro hlen (And.intro hget hkl))
 clear hG hA hB h hlen hget hkl
 go_enter Tryz.func106, Tryz.ntmps106
 go_wp2_with fail
 have hR0 : kAttr.R 38 (w.alloc (.cells #[] 38)) w.heap.size (fun _ => True) (.slice (some ⟨w.heap.size, 0, none⟩) 0 0) [] :=
  ⟨fun _ _ => trivial, [], ⟨by simp, .inr ⟨w.heap.size, 0, #[], rfl, Nat.le_refl _, World.alloc_heap_new w _, Nat.le_refl _, by decide, rfl, rfl⟩⟩, Reps.none _ _⟩
 have HR0 := Aside0.mk (And.intro hR0 ((Below.refl w.heap.size w).alloc (Nat.le_refl _) (.cells #[] 38)))
 clear hR0
 generalize w.alloc (.cells #[] 38) = W0 at *
 go_loopw [15, 6] (fun v15 v6 wr => ∃ (k : Nat) (acc : List At), v15 = .int .i64 k ∧ k ≤ l.length ∧ Aside0 (acc = ats.take k) ∧ Aside0 (kAttr.R 38 wr w.heap.size (fun _ => True) v6 acc ∧ Below w.heap.size w wr)) (fun v15 _ _ => l.length - (intOf v15).toNat)
 case atStart => exact ⟨0, [], rfl, by omega, ⟨rfl⟩, HR0⟩
 case round =>
  obtain ⟨k, acc, rfl, hk, HACC, HX⟩ := hrel
  by_cases hlt : k < l.length
  ·have hk2 : k < ats.length := by have := HL.out.1; omega
   obtain ⟨hres, hval, hdis⟩ := HL.out.2.1 k hlt hk2
   obtain ⟨ad, rfl, c0, c1⟩ := pair_at (Kd.C_below (d := kPair) HB.out HX.out.2) k hlt
   obtain ⟨A6, c6, rfl, hc6, _⟩ := Kd.R_reads HX.out.1
   have hkl := HL.out.2.2 l[k] (List.getElem_mem hlt)
   have htl : acc.length ≤ 100000 := by rw [HACC.out, List.length_take]; omega
   rw [← HACC.out] at hdis
   have HT := Lib.hid (And.intro hres (And.intro hval (And.intro hdis hkl)))
   have HTL := Lib.hid htl
   have hu220 := Tryz.underlying144
   have hu185 := Tryz.underlying38
   have hn1 := World.alloc_heap_new wr (.cells #[.string (M l[k].1), .string (M l[k].2)] 144)
   have hb1 := (Below.refl wr.heap.size wr).alloc (Nat.le_refl _) (.cells #[.string (M l[k].1), .string (M l[k].2)] 144)
   have d0 : (wr.alloc (.cells #[.string (M l[k].1), .string (M l[k].2)] 144)).cell? ⟨wr.heap.size, 0, none⟩ = some (.string (M l[k].1)) := by unfold World.cell?; rw [hn1]; rfl
   have HN1 := Lib.hid (And.intro hn1 hb1)
   clear hres hval hdis hkl htl hn1 hb1
   go_wp2_with fail
   refine (resolve_pairs A c scope l[k].1 true (M ats[k].1) (M ats[k].2.1) _ (HG.out.below (HX.out.2.trans (HN1.out.2.mono HX.out.2.size))) hsl (Kd.C_below (d := kPair) HA.out (HX.out.2.trans (HN1.out.2.mono HX.out.2.size))) HT.out.2.2.2 HT.out.1).mono ?_
   rintro e w2 ⟨rfl, h2⟩
   have hb2 : Below wr.heap.size wr w2 := HN1.out.2.trans (h2.mono HN1.out.2.size)
   have hp2 : w2.heap[wr.heap.size]? = some (.cells #[.string (M l[k].1), .string (M l[k].2)] 144 (0, 0)) := (h2.block _ (Array.getElem?_eq_some_iff.1 HN1.out.1).1).trans HN1.out.1
   have HB2 := Lib.hid (And.intro hb2 hp2)
   clear h2 hb2 hp2 d0
   have hb3 := (((Below.refl w2.heap.size w2).alloc (Nat.le_refl _) (.cells #[.string (M ats[k].1)] 9)).alloc (by simp) (.cells #[.string (M ats[k].2.1)] 9))
   have hx1 := ((Boxed.new w2 9 (.string (M ats[k].1))).alloc (.cells #[.string (M ats[k].2.1)] 9)).cell
   have hx2 := (Boxed.new (w2.alloc (.cells #[.string (M ats[k].1)] 9)) 9 (.string (M ats[k].2.1))).cell
   rw [World.size_alloc] at hx2
   have HB3 := Lib.hid (And.intro hb3 (And.intro hx1 hx2))
   clear hb3 hx1 hx2
   go_wp2_with fail
   refine (dup_none3 A6 c6 ⟨w2.heap.size, 0, none⟩ ⟨w2.heap.size + 1, 0, none⟩ acc ats[k].1 ats[k].2.1 _ (by have := HTL.out; omega) ?_ HB3.out.2.1 HB3.out.2.2 HT.out.2.2.1).mono ?_
   ·have hr := Kd.R_below (Kd.R_below HX.out.1 HB2.out.1) HB3.out.1
    obtain ⟨A', c', e, _, hC⟩ := Kd.R_reads hr
    injection e with e1 e2 e3
    rw [e1]
    exact hC
   rintro e w4 ⟨rfl, h4⟩
   have hr4 := Kd.R_below (Kd.R_below (Kd.R_below HX.out.1 HB2.out.1) HB3.out.1) h4
   have hb4 : Below w2.heap.size w2 w4 := HB3.out.1.trans (h4.mono HB3.out.1.size)
   have q0 := (h4.cell (World.block_lt_of_cell? _ _ HB3.out.2.1)).trans HB3.out.2.1
   have q1 := (h4.cell (World.block_lt_of_cell? _ _ HB3.out.2.2)).trans HB3.out.2.2
   have hp4 : w4.heap[wr.heap.size]? = some (.cells #[.string (M l[k].1), .string (M l[k].2)] 144 (0, 0)) := (hb4.block _ (Array.getElem?_eq_some_iff.1 HB2.out.2).1).trans HB2.out.2
   have q2 : w4.cell? ⟨wr.heap.size, 1, none⟩ = some (.string (M l[k].2)) := by unfold World.cell?; rw [hp4]; rfl
   have HX4 := Lib.hid (And.intro hr4 (HX.out.2.trans ((HB2.out.1.trans (hb4.mono HB2.out.1.size)).mono HX.out.2.size)))
   clear h4 hr4 hb4 hp4
   have hval := HT.out.2.1
   rw [← hval] at q2
   clear hval
   go_wp2_with (at_builtin; refine Kd.R_append kAttr (w0 := w4) w.heap.size rfl (.tmp 33) (.tmp 39) 22 38 (.agg #[(.string ⟨#[]⟩), (.string ⟨#[]⟩), (.string ⟨#[]⟩)]) 48 rfl Tryz.underlying22 info38 (by decide) (by decide) (by decide) (.slice A6 acc.length c6) acc ats[k] [.string (M ats[k].1), .string (M ats[k].2.1), .string (M ats[k].2.2)] (fun _ => True) (fun _ => False) rfl rfl (kAttr_mkM _) (fun _ h => h.elim) (fun _ _ => trivial) HX4.out.1 (Below.refl _ _) HX4.out.2.size (by have := HTL.out; omega) ?_)
   intro v1 w5 hr5 hb5 hg5 _
   have HX5 := Aside0.mk (And.intro hr5 (HX4.out.2.trans hb5))
   have HA5 := Aside0.mk (show acc ++ [ats[k]] = ats.take (k + 1) by rw [HACC.out, List.take_succ_eq_append_getElem hk2])
   clear hr5 hb5 hg5 q0 q1 q2
   go_wp2
   go_roundw
   case rel => exact ⟨k + 1, _, by go_num, by omega, HA5, HX5⟩
   case measure => simp [intOf]; omega
  ·have hk3 : k = l.length := by omega
   have hfin : acc = ats := by rw [HACC.out, List.take_of_length_le (by have := HL.out.1; omega)]
   subst hfin
   clear hk3
   go_wp2
   go_ret2
   exact ⟨_, rfl, HX.out.1, HX.out.2⟩
end Go.Proofs.YtadgeghipimfiaaGreatDoor.X
end
section
namespace Go.Proofs.YtadgeghipimfiaaGreatDoor.X
open Go.RowKit Go.Shelf Go.Proofs.YtadgeghipimfiaaGreatDoorW.PrintWords Go.Proofs.YtadgeghipimfiaaGreatDoor.F Go.Proofs.YtadgeghipimfiaaGreatDoor.Pg Go.Proofs.YtadgeghipimfiaaGreatDoor.Z
set_option linter.unusedVariables false
set_option linter.unusedSimpArgs false
theorem exp_len {u v : Bs} (h : Exp blanks u v) : v.length ≤ u.length := by
 induction h with
 | last u hu => simp [blanks]
 | more u name v behind out hu hn he ih =>
   have hv : v.length = 1 := by
    simp only [refs, List.mem_cons, Prod.mk.injEq, List.not_mem_nil, or_false] at hn
    rcases hn with ⟨rfl, rfl⟩ | ⟨rfl, rfl⟩ | ⟨rfl, rfl⟩ | ⟨rfl, rfl⟩ | ⟨rfl, rfl⟩ | ⟨rfl, rfl⟩ | ⟨rfl, rfl⟩ <;> rfl
   have : (blanks u).length = u.length := by simp [blanks]
   simp only [List.length_append, List.length_cons]
   omega
theorem nm_head {s n r : Bs} (h : Nm s n r) : ∃ c t, s = c :: t ∧ ∀ d : UInt8, d.toNat < 128 → partB d.toNat = false → c ≠ d := by
 have hne : s ≠ [] := by rw [h.eq]; simp [h.ne]
 obtain ⟨c, t, rfl⟩ := List.exists_cons_of_ne_nil hne
 refine ⟨c, t, rfl, fun d hd hp e => ?_⟩
 subst e
 have hl := h.len
 have hn : 0 < n.length := List.length_pos_iff.2 h.ne
 have hg : U.goesB true (c :: t) = true := by
  by_cases hg : U.goesB true (c :: t) = true
  ·exact hg
  ·exfalso
   have e : U.nameL (c :: t) = 0 := by
    show U.nameN (t.length + 1) true (c :: t) = 0
    unfold U.nameN
    rw [if_neg (by simp), if_neg hg]
   omega
 have hdec : U.firstL (c :: t) = ((c.toNat : Int), 1) := by
  have hd1 : Lib.decodeL (c :: t) = (c.toNat, 1) := by
   rw [U.decodeL_eq]
   unfold Lib.decodeN
   have : U.nb (c :: t) 0 = c.toNat := rfl
   rw [this, if_pos hd]
  rw [U.firstL_good (by simp) (by unfold U.bad; rw [hd1]; simp only; omega), hd1]
  rfl
 unfold U.goesB at hg
 rw [hdec] at hg
 simp only [Bool.and_eq_true] at hg
 rw [hp] at hg
 exact absurd hg.1.2 (by decide)
theorem ats_inv {pre : List Bs} {s : Bs} {l : List (Bs × Bs)} {al : Bool} {r : Bs} (h : Ats pre s l al r) :
  (s = 47 :: 62 :: r ∧ l = [] ∧ al = true) ∨ (s = 62 :: r ∧ l = [] ∧ al = false) ∨
    ∃ n u v r' q l', s = 32 :: (n ++ 61 :: q :: (u ++ q :: r')) ∧ l = (n, v) :: l' ∧ (q = 34 ∨ q = 39) ∧ Nm (n ++ 61 :: q :: (u ++ q :: r')) n (61 :: q :: (u ++ q :: r')) ∧ (∀ c ∈ u, c ≠ q ∧ c ≠ 60 ∧ c ≠ 9 ∧ c ≠ 10 ∧ c ≠ 13) ∧ Exp blanks u v ∧ n ∉ pre ∧ Ats (pre ++ [n]) r' l' al r := by
 cases h with
 | alone => exact .inl ⟨rfl, rfl, rfl⟩
 | done => exact .inr (.inl ⟨rfl, rfl, rfl⟩)
 | more _ n u v r' q l' _ _ hq hn hu he hp ha => exact .inr (.inr ⟨n, u, v, r', q, l', rfl, rfl, hq, hn, hu, he, hp, ha⟩)
def scanLen (W : World) (b : Nat) : Nat := match W.cell? ⟨b, 0, none⟩ with | some (.string x) => x.size | _ => 0
theorem scanLen_eq {W : World} {b : Nat} {s : Bs} {o : Value} (h : Scan W b (M s) o) : scanLen W b = s.length := by
 unfold scanLen
 rw [show W.cell? ⟨b, 0, none⟩ = some (.string (M s)) from h.cell 0]
 rfl
theorem trim_name {x n r : Bs} (h : Nm x n r) : Lib.trimLeftS (32 :: x) wsS = x := by
 obtain ⟨c, t, rfl, hc⟩ := nm_head h
 have h1 := hc 32 (by decide) (by decide)
 have h2 := hc 9 (by decide) (by decide)
 have h3 := hc 10 (by decide) (by decide)
 have h4 := hc 13 (by decide) (by decide)
 simp [Lib.trimLeftS, wsS, List.dropWhile_cons, h1, h2, h3, h4]
theorem name_pre {x n r : Bs} (h : Nm x n r) (d : UInt8) (l : Bs) (hd : d.toNat < 128) (hp : partB d.toNat = false) : (d :: l).isPrefixOf x = false := by
 obtain ⟨c, t, rfl, hc⟩ := nm_head h
 have := hc d hd hp
 have h2 : (d == c) = false := beq_eq_false_iff_ne.2 (fun e => this e.symm)
 simp [List.isPrefixOf, h2]
theorem row_C {W : World} {base : Nat} {ok : Nat → Prop} {A : Option Addr} {c : Nat} {l : List (Bs × Bs)} (h : kPair.R 144 W base ok (.slice A l.length c) l) : kPair.C W A l.length l := by
 obtain ⟨A', c', e, _, hC⟩ := Kd.R_reads h
 injection e with e1 e2 e3
 rw [e1]
 exact hC
structure OpAt (w : World) (b base : Nat) (n s0 : Bs) (ts : List Tok) (o : Value) (tb : Nat) (x : Bool) (s : Bs) (v : Value) (acc : List (Bs × Bs)) (wr : World) : Prop where
 can0 : Can w b base s0 ts o
 off : Only b w wr
 scan : Scan wr b (M s) o
 short : s.length ≤ s0.length
 blk : Blk wr tb #[.int .i64 0, .string (M n), v, .bool x, .string ⟨#[]⟩] 60
 row : kPair.R 144 wr w.heap.size (fun k => k ≠ b ∧ some k ≠ o.ownBlock ∧ k ≠ tb) v acc
 new : w.heap.size ≤ tb
section
variable {w : World} {b base : Nat} {n s0 : Bs} {ts : List Tok} {o : Value} {tb : Nat} {x : Bool} {s : Bs} {v : Value} {acc : List (Bs × Bs)} {wr wr' : World}
theorem OpAt.can (h : OpAt w b base n s0 ts o tb x s v acc wr) : Can wr b base s ts o := h.can0.only h.off h.scan h.short
theorem OpAt.low (h : OpAt w b base n s0 ts o tb x s v acc wr) : b < w.heap.size := h.can0.sc.scan.lt
theorem OpAt.tbb (h : OpAt w b base n s0 ts o tb x s v acc wr) : tb ≠ b := by have := h.low; have := h.new; omega
theorem OpAt.ob (h : OpAt w b base n s0 ts o tb x s v acc wr) : ∀ k, o.ownBlock = some k → k < w.heap.size := fun k hk => (h.can0.sc.ow k hk).2
theorem OpAt.scans {s' : Bs} (h : OpAt w b base n s0 ts o tb x s v acc wr) (ho : Only b wr wr') (hs : Scan wr' b (M s') o) (hl : s'.length ≤ s.length) : OpAt w b base n s0 ts o tb x s' v acc wr' :=
 ⟨h.can0, h.off.trans (ho.mono fun _ _ e => e), hs, Nat.le_trans hl h.short, h.blk.off ho h.tbb, Kd.R_step h.row (fun k hk hlt => ho.block k hlt hk.1), h.new⟩
theorem OpAt.to {s' : Bs} (h : OpAt w b base n s0 ts o tb x s v acc wr) (ho : Only b wr wr') (hc : Can wr' b base s' ts o) (hl : s'.length ≤ s.length) : OpAt w b base n s0 ts o tb x s' v acc wr' := h.scans ho hc.sc.scan hl
theorem OpAt.below (h : OpAt w b base n s0 ts o tb x s v acc wr) (hb : Below wr.heap.size wr wr') : OpAt w b base n s0 ts o tb x s v acc wr' :=
 h.scans (Off.of_below hb) (h.scan.below hb h.scan.lt) (Nat.le_refl _)
theorem OpAt.alone (h : OpAt w b base n s0 ts o tb x s v acc wr) (y : Bool) : OpAt w b base n s0 ts o tb y s v acc (wr.setCell ⟨tb, 3, none⟩ (.bool y)) :=
 ⟨h.can0, h.off.set _ _ (.inr h.new), (Below.heap_setCell _ _ _ _ (show b ≠ tb from fun e => h.tbb e.symm)).trans h.scan, h.short, h.blk.set 3 _, Kd.R_far h.row (fun k hk => hk.2.2) _, h.new⟩
theorem OpAt.grown {v1 : Value} {acc' : List (Bs × Bs)} (h : OpAt w b base n s0 ts o tb x s v acc wr) (hg : wr.grownBy wr' v.ownBlock) (hr : kPair.R 144 wr' w.heap.size (fun k => k ≠ b ∧ some k ≠ o.ownBlock ∧ k ≠ tb) v1 acc') :
  OpAt w b base n s0 ts o tb x s v1 acc' (wr'.setCell ⟨tb, 2, none⟩ v1) := by
 have hob := h.row.1
 have hbase : ∀ k, v.ownBlock = some k → w.heap.size ≤ k := fun k hk => by
  obtain ⟨xs, hx⟩ := Kd.R_own h.row
  exact (hx.lt k hk).1
 have hoff : Only b w wr' := ⟨hg.os.trans h.off.os, hg.tape.trans h.off.tape, hg.output.trans h.off.output, Nat.le_trans h.off.size hg.size, fun k hk hn =>
  (hg.block k (Nat.lt_of_lt_of_le hk h.off.size) (fun e => by have := hbase k e.symm; omega)).trans (h.off.block k hk hn)⟩
 have hb1 : wr'.heap[b]? = wr.heap[b]? := hg.block b h.scan.lt fun e => (hob b e.symm).1 rfl
 have hb2 : wr'.heap[tb]? = wr.heap[tb]? := hg.block tb h.blk.lt fun e => (hob tb e.symm).2.2 rfl
 exact ⟨h.can0, hoff.set _ _ (.inr h.new), (Below.heap_setCell _ _ _ _ (show b ≠ tb from fun e => h.tbb e.symm)).trans (hb1.trans h.scan), h.short, Blk.set (hb2.trans h.blk) 2 _, Kd.R_far hr (fun k hk => hk.2.2) _, h.new⟩
theorem OpAt.put (h : OpAt w b base n s0 ts o tb x s v acc wr) : Calls Tryz.prog 60 #[.pointer (some ⟨b, 0, none⟩), .agg #[.int .i64 0, .string (M n), v, .bool x, .string ⟨#[]⟩]] wr (Stepped b base s (ts ++ [⟨0, n, acc, x, []⟩]) w) := by
 have hM : kTok.M wr w.heap.size (fun k => k ≠ b ∧ some k ≠ o.ownBlock ∧ k ≠ tb) ⟨0, n, acc, x, []⟩ [.int .i64 0, .string (M n), v, .bool x, .string (M [])] := kTok_mkM (t := ⟨0, n, acc, x, []⟩) h.row
 refine (put_tok b base s ts o ⟨0, n, acc, x, []⟩ _ _ wr h.can.sc h.can.room (kTok.M_lower h.can0.sc.le hM) (fun k hk => ⟨hk.1, hk.2.1⟩)).mono ?_
 rintro e w' ⟨o', rfl, hs, hc⟩
 exact ⟨o', rfl, hs, (och base h.off).trans (hc.mono fun _ _ e => e)⟩
end
set_option maxRecDepth 100000 in
set_option maxHeartbeats 2000000 in
theorem opens_can {w : World} {b base : Nat} {n s r : Bs} {l : List (Bs × Bs)} {al : Bool} {ts : List Tok} {o : Value} (h : Can w b base (n ++ s) ts o) (hn : Nm (n ++ s) n s) (ha : Ats [] s l al r) (hf : l.length ≤ 1000000) :
  Calls Tryz.prog 64 #[.pointer (some ⟨b, 0, none⟩)] w (Stepped b base r (ts ++ [⟨0, n, l, al, []⟩]) w) := by
 have H := Lib.hid h
 have HN := Lib.hid hn
 have HA := Lib.hid ha
 clear h hn ha
 go_enter Tryz.func64, Tryz.ntmps64
 go_wp2_with fail
 refine (name_nm H.out HN.out).mono ?_
 rintro e w1 ⟨rfl, ho1, h1⟩
 have H1 := Lib.hid h1
 have HO1 := Lib.hid ho1
 have hsz := ho1.size
 have HP := Aside0.mk (show OpAt w b base n (n ++ s) ts o w1.heap.size false s (.slice none 0 0) [] (w1.alloc (.cells #[.int .i64 0, .string (M n), .slice none 0 0, .bool false, .string ⟨#[]⟩] 60)) from
  ⟨H.out, ho1.trans (Off.of_below ((Below.refl _ w1).alloc (Nat.le_refl _) _)), h1.sc.scan.below ((Below.refl _ w1).alloc (Nat.le_refl _) _) h1.sc.scan.lt, by simp, Blk.new _ _ _, Kd.R_nil _ _ _ _ _, hsz⟩)
 clear h1 ho1
 go_wp2_with fail
 generalize w1.alloc (.cells #[.int .i64 0, .string (M n), .slice none 0 0, .bool false, .string ⟨#[]⟩] 60) = W0 at *
 generalize w1.heap.size = tb at *
 go_loopw [3] (fun _ wr => ∃ s' v acc rem, Aside0 (OpAt w b base n (n ++ s) ts o tb false s' v acc wr) ∧ Aside0 (Ats (acc.map Prod.fst) s' rem al r ∧ acc ++ rem = l)) (fun _ wr => scanLen wr b)
 case atStart => exact ⟨s, _, [], l, HP, ⟨HA.out, rfl⟩⟩
 case round =>
  obtain ⟨s', v, acc, rem, HX, HR⟩ := hrel
  obtain ⟨hats, hsum⟩ := HR.out
  have hlow := HX.out.low
  rcases ats_inv hats with ⟨rfl, rfl, rfl⟩ | ⟨rfl, rfl, rfl⟩ | ⟨n', u, v', r', q, l', rfl, rfl, hq, hn', hu, he, hpre, hats'⟩
  ·have hacc : acc = l := by simpa using hsum
   subst hacc
   clear hats hsum HR
   have e1 : Lib.trimLeftS (47 :: 62 :: r) wsS = 47 :: 62 :: r := rfl
   go_wp2_with fail
   refine (space_can HX.out.can).mono ?_
   rintro e w2 ⟨rfl, ho2, h2⟩
   rw [e1] at h2 ⊢
   have H2 := Lib.hid (HX.out.to ho2 h2 (Nat.le_refl _))
   clear ho2 h2 e1
   go_wp2_with fail
   refine (take_yes (t := [47, 62]) H2.out.can).mono ?_
   rintro e w3 ⟨rfl, ho3, h3⟩
   have H3 := Lib.hid (H2.out.to ho3 h3 (by simp only [List.length_cons]; omega))
   have c3 : w3.cell? ⟨tb, 3, none⟩ = some (.bool false) := H3.out.blk.cell 3
   have f3 := H3.out.blk.frozen 3
   have c0 : w3.cell? ⟨tb, 0, none⟩ = some (.int .i64 0) := H3.out.blk.cell 0
   have c1 : w3.cell? ⟨tb, 1, none⟩ = some (.string (M n)) := H3.out.blk.cell 1
   have c2 : w3.cell? ⟨tb, 2, none⟩ = some v := H3.out.blk.cell 2
   have c4 : w3.cell? ⟨tb, 4, none⟩ = some (.string ⟨#[]⟩) := H3.out.blk.cell 4
   have H4 := Lib.hid (H3.out.alone true)
   have hu106 := Tryz.underlying60
   clear ho3 h3
   go_wp2_with fail
   refine H4.out.put.mono ?_
   rintro e w5 h5
   have H5 := Lib.hid h5
   obtain ⟨o5, rfl, _⟩ := h5
   go_wp2
   exact bodyPost_ret (results_none rfl _ _ _) rfl H5.out
  ·have hacc : acc = l := by simpa using hsum
   subst hacc
   clear hats hsum HR
   have e1 : Lib.trimLeftS (62 :: r) wsS = 62 :: r := rfl
   go_wp2_with fail
   refine (space_can HX.out.can).mono ?_
   rintro e w2 ⟨rfl, ho2, h2⟩
   rw [e1] at h2 ⊢
   have H2 := Lib.hid (HX.out.to ho2 h2 (Nat.le_refl _))
   clear ho2 h2 e1
   go_wp2_with fail
   refine (take_no (t := [47, 62]) H2.out.can (by rfl)).mono ?_
   rintro e w3 ⟨rfl, ho3, h3⟩
   have H3 := Lib.hid (H2.out.to ho3 h3 (Nat.le_refl _))
   have c3 : w3.cell? ⟨tb, 3, none⟩ = some (.bool false) := H3.out.blk.cell 3
   have f3 := H3.out.blk.frozen 3
   have H4 := Lib.hid (H3.out.alone false)
   have c3' : (w3.setCell ⟨tb, 3, none⟩ (.bool false)).cell? ⟨tb, 3, none⟩ = some (.bool false) := H4.out.blk.cell 3
   have hu106 := Tryz.underlying60
   clear ho3 h3
   go_wp2_with fail
   refine (take_yes (t := [62]) H4.out.can).mono ?_
   rintro e w4 ⟨rfl, ho4, h4⟩
   have H5 := Lib.hid (H4.out.to ho4 h4 (by simp only [List.length_cons]; omega))
   clear ho4 h4
   have c0 : w4.cell? ⟨tb, 0, none⟩ = some (.int .i64 0) := H5.out.blk.cell 0
   have c1 : w4.cell? ⟨tb, 1, none⟩ = some (.string (M n)) := H5.out.blk.cell 1
   have c2 : w4.cell? ⟨tb, 2, none⟩ = some v := H5.out.blk.cell 2
   have c3 : w4.cell? ⟨tb, 3, none⟩ = some (.bool false) := H5.out.blk.cell 3
   have c4 : w4.cell? ⟨tb, 4, none⟩ = some (.string ⟨#[]⟩) := H5.out.blk.cell 4
   go_wp2_with fail
   refine H5.out.put.mono ?_
   rintro e w5 h5
   have H6 := Lib.hid h5
   obtain ⟨o5, rfl, _⟩ := h5
   go_wp2
   exact bodyPost_ret (results_none rfl _ _ _) rfl H6.out
  ·have hhd := hn'
   have e1 := trim_name hn'
   have p1 := name_pre hn' 47 [62] (by decide) (by decide)
   have p2 := name_pre hn' 62 [] (by decide) (by decide)
   obtain ⟨x, hx⟩ : ∃ x, n' ++ 61 :: q :: (u ++ q :: r') = x := ⟨_, rfl⟩
   rw [hx] at e1 p1 p2 HX hats hhd
   have HXX := Lib.hid hx
   have hxl : r'.length ≤ x.length := by rw [← hx]; simp only [List.length_append, List.length_cons]; omega
   have hxe : x.length = n'.length + (u.length + r'.length + 3) := by rw [← hx]; simp only [List.length_append, List.length_cons]; omega
   have hdec : decide (x.length < (32 :: x).length) = true := decide_eq_true (by simp)
   have hvl : v'.length ≤ 4294967000 := by
    have h1 := exp_len he
    have h2 := HX.out.can.len
    simp only [List.length_cons] at h2
    omega
   have HDEC := Lib.hid hdec
   have HN' := Lib.hid hn'
   have HU := Lib.hid hu
   have HE := Lib.hid he
   have HPRE := Lib.hid hpre
   have HATS := Lib.hid hats'
   have HP1 := Lib.hid p1
   have HP2 := Lib.hid p2
   obtain ⟨A, cc, rfl, hcc, _⟩ := Kd.R_reads HX.out.row
   have hmf : ∀ (fn : Fn) (first cap : Array Value) (w : World), (Instr.makeFunc fn first cap).run Tryz.prog w = .ok (.func fn first cap) w := fun _ _ _ _ => rfl
   have hacc : acc.length + l'.length + 1 = l.length := by rw [← hsum, List.length_append, List.length_cons]; omega
   have HS := Lib.hid hsum
   clear hats hx hdec hn' hu he hpre hats' p1 p2 HR hsum hhd
   go_wp2_with fail
   refine (space_can HX.out.can).mono ?_
   rintro e w2 ⟨rfl, ho2, h2⟩
   rw [e1] at h2 ⊢
   rw [HDEC.out]
   have H2 := Lib.hid (HX.out.to ho2 h2 (by simp))
   clear ho2 h2 e1
   go_wp2_with fail
   refine (take_no (t := [47, 62]) H2.out.can HP1.out).mono ?_
   rintro e w3 ⟨rfl, ho3, h3⟩
   have H3 := Lib.hid (H2.out.to ho3 h3 (Nat.le_refl _))
   have c3 : w3.cell? ⟨tb, 3, none⟩ = some (.bool false) := H3.out.blk.cell 3
   have f3 := H3.out.blk.frozen 3
   have H4 := Lib.hid (H3.out.alone false)
   have c3' : (w3.setCell ⟨tb, 3, none⟩ (.bool false)).cell? ⟨tb, 3, none⟩ = some (.bool false) := H4.out.blk.cell 3
   have hu106 := Tryz.underlying60
   clear ho3 h3
   go_wp2_with fail
   refine (take_no (t := [62]) H4.out.can HP2.out).mono ?_
   rintro e w4 ⟨rfl, ho4, h4⟩
   have H5 := Lib.hid (H4.out.to ho4 h4 (Nat.le_refl _))
   clear ho4 h4 c3 f3 c3'
   go_wp2_with fail
   refine (must_yes w4).mono ?_
   rintro e w5 ⟨rfl, rfl⟩
   go_wp2_with fail
   refine (attr_can (by rw [HXX.out]; exact H5.out.can) hq HN'.out HU.out HE.out hvl).mono ?_
   rintro e w5 ⟨rfl, ho5, h5⟩
   have H6 := Lib.hid (H5.out.to ho5 h5 hxl)
   clear ho5 h5
   have hab := World.alloc_heap_new w5 (.cells #[.string (M n'), .string (M v')] 144)
   have H7 := Lib.hid (H6.out.below ((Below.refl _ w5).alloc (Nat.le_refl _) (.cells #[.string (M n'), .string (M v')] 144)))
   have hcap : (w5.alloc (.cells #[.string (M n'), .string (M v')] 144)).cell? ⟨w5.heap.size, 0, none⟩ = some (.string (M n')) := by unfold World.cell?; rw [hab]; rfl
   have c2 : (w5.alloc (.cells #[.string (M n'), .string (M v')] 144)).cell? ⟨tb, 2, none⟩ = some (.slice A acc.length cc) := H7.out.blk.cell 2
   have HAB := Lib.hid hab
   have HCAP := Lib.hid hcap
   clear hab hcap
   go_wp2_with fail
   refine (dup_none A cc ⟨w5.heap.size, 0, none⟩ acc n' _ (by omega) (row_C H7.out.row) HCAP.out (fun y hy e => HPRE.out (by rw [← e]; exact List.mem_map_of_mem hy))).mono ?_
   rintro e w6 ⟨rfl, h8⟩
   have H8 := Lib.hid (H7.out.below h8)
   have HAB8 := Lib.hid (show w6.heap[w5.heap.size]? = some (.cells #[.string (M n'), .string (M v')] 144 (0, 0)) from (h8.block _ (Array.getElem?_eq_some_iff.1 HAB.out).1).trans HAB.out)
   clear h8 c2
   have c2 : w6.cell? ⟨tb, 2, none⟩ = some (.slice A acc.length cc) := H8.out.blk.cell 2
   have f2 := H8.out.blk.frozen 2
   have a0 : w6.cell? ⟨w5.heap.size, 0, none⟩ = some (.string (M n')) := by unfold World.cell?; rw [HAB8.out]; rfl
   have a1 : w6.cell? ⟨w5.heap.size, 1, none⟩ = some (.string (M v')) := by unfold World.cell?; rw [HAB8.out]; rfl
   have hu220 := Tryz.underlying144
   go_wp2_with (at_builtin; refine Kd.R_append kPair (w0 := w6) w.heap.size rfl (.tmp 32) (.tmp 34) 58 144 (.agg #[(.string ⟨#[]⟩), (.string ⟨#[]⟩)]) 32 rfl Tryz.underlying58 info144 (by decide) (by decide) (by decide) (.slice A acc.length cc) acc (n', v') [.string (M n'), .string (M v')] (fun k => k ≠ b ∧ some k ≠ o.ownBlock ∧ k ≠ tb) (fun _ => False) rfl rfl ⟨_, _, rfl, rfl, rfl⟩ (fun _ h => h.elim) ?_ H8.out.row (Below.refl _ _) ?_ (by omega) ?_)
   ·intro k hk
    have h1 := H8.out.low
    have h2 := H8.out.off.size
    have h3 := H8.out.blk.lt
    exact ⟨by omega, fun e => by have := H8.out.ob k e.symm; omega, by omega⟩
   ·exact H8.out.off.size
   intro v1 w7 hr1 _ hg7 _
   obtain ⟨A1, cc1, rfl, _⟩ := Kd.R_reads hr1
   rw [show (acc ++ [(n', v')]).length = acc.length + 1 by simp] at hr1
   have H9 := Aside0.mk (H8.out.grown hg7 hr1)
   have hbk : w7.heap[tb]? = w6.heap[tb]? := hg7.block tb H8.out.blk.lt fun e => (H8.out.row.1 tb e.symm).2.2 rfl
   have c2' : w7.cell? ⟨tb, 2, none⟩ = some (.slice A acc.length cc) := by rw [World.cell?_of_block hbk]; exact c2
   have f2' : w7.frozen? ⟨tb, 2, none⟩ = false := by rw [World.frozen?_of_block hbk]; exact f2
   have HSC := Lib.hid (And.intro (scanLen_eq H9.out.scan) (scanLen_eq HX.out.scan))
   clear hbk hr1 hg7 c2 f2
   go_wp2
   go_roundw
   case rel => exact ⟨r', _, acc ++ [(n', v')], l', H9, ⟨by rw [List.map_append]; exact HATS.out, by rw [List.append_assoc]; exact HS.out⟩⟩
   case measure =>
    have h1 := HSC.out.1
    have h2 := HSC.out.2
    rw [h1, h2]
    simp only [List.length_cons]
    omega
end Go.Proofs.YtadgeghipimfiaaGreatDoor.X
end
section
namespace Go.Proofs.YtadgeghipimfiaaGreatDoor.X
open Go.RowKit Go.Shelf Go.Proofs.YtadgeghipimfiaaGreatDoorW.PrintWords Go.Proofs.YtadgeghipimfiaaGreatDoor.F Go.Proofs.YtadgeghipimfiaaGreatDoor.Pg Go.Proofs.YtadgeghipimfiaaGreatDoor.Z
set_option linter.unusedVariables false
set_option linter.unusedSimpArgs false
def xmlP : Bs := [60, 63, 120, 109, 108]
set_option maxRecDepth 100000 in
theorem declared_no {w : World} {b base : Nat} {s : Bs} {ts : List Tok} {o : Value} (h : Can w b base s ts o) (hp : xmlP.isPrefixOf s = false ∨ ts ≠ []) :
  Calls Tryz.prog 56 #[.pointer (some ⟨b, 0, none⟩)] w fun e w' => e = .returned (.bool false) ∧ w = w' := by
 have hc : w.cell? ⟨b, 0, none⟩ = some (.string (M s)) := h.sc.scan.cell 0
 have hc1 : w.cell? ⟨b, 1, none⟩ = some o := h.sc.scan.cell 1
 obtain ⟨v, hv⟩ : ∃ v, Lib.hasPrefix s xmlP = v := ⟨_, rfl⟩
 have HV := Lib.hid hv
 obtain ⟨A, c, rfl⟩ := Kd.R_slice h.sc.row
 have hts : v = true → ((ts.length : Int) == 0) = false := by
  intro e
  rcases hp with hp | hp
  ·exfalso
   rw [e] at hv
   have : Lib.hasPrefix s xmlP = false := hp
   rw [hv] at this
   cases this
  ·rw [beq_eq_false_iff_ne]
   have := List.length_pos_iff.2 hp
   omega
 have HTS := Lib.hid hts
 clear h hp hv hts
 go_enter Tryz.func56, Tryz.ntmps56
 go_wp2_with fail
 refine (Tryz.strings_CutPrefix (M s) (M xmlP) w).mono ?_
 rintro e w1 ⟨rfl, rfl⟩
 rw [show Lib.hasPrefix (M s).data.toList (M xmlP).data.toList = v from HV.out]
 cases v with
 | false =>
   go_wp2
   go_ret
   exact ⟨rfl, rfl⟩
 | true =>
   have h0 := HTS.out rfl
   go_wp2
   go_ret
   exact ⟨rfl, rfl⟩
theorem pre_cons {c : UInt8} {l x : Bs} (h : l.isPrefixOf x = false) : (c :: l).isPrefixOf (c :: x) = false := by
 simp [List.isPrefixOf, h]
theorem pre_head {u r : Bs} (h0 : u ≠ []) (hu : ∀ c ∈ u, c ≠ 60) (l : Bs) : (60 :: l).isPrefixOf (u ++ r) = false := by
 obtain ⟨c, t, rfl⟩ := List.exists_cons_of_ne_nil h0
 have h2 : ((60 : UInt8) == c) = false := beq_eq_false_iff_ne.2 (fun e => hu c List.mem_cons_self e.symm)
 rw [List.cons_append]
 simp [List.isPrefixOf, h2]
set_option maxRecDepth 100000 in
set_option maxHeartbeats 1000000 in
theorem next_note {w : World} {b base : Nat} {d r : Bs} {ts : List Tok} {o : Value} (h : Can w b base (60 :: 33 :: 45 :: 45 :: (d ++ 45 :: 45 :: 62 :: r)) ts o) (hc : Lib.cut (d ++ 45 :: 45 :: 62 :: r) [45, 45] = (d, 62 :: r, true)) :
  Calls Tryz.prog 34 #[.pointer (some ⟨b, 0, none⟩)] w (Stepped b base r (ts ++ [⟨3, [], [], false, d⟩]) w) := by
 have HD := Lib.hid (show xmlP.isPrefixOf (60 :: 33 :: 45 :: 45 :: (d ++ 45 :: 45 :: 62 :: r)) = false ∨ ts ≠ [] from .inl rfl)
 have HC := Lib.hid hc
 clear hc
 have H0 := Lib.hid h
 have HO0 := Lib.hid (Off.refl (fun k => k = b ∨ base ≤ k) w)
 clear h
 go_enter Tryz.func34, Tryz.ntmps34
 go_wp2_with fail
 refine (declared_no H0.out HD.out).mono ?_
 rintro e w0 ⟨rfl, rfl⟩
 go_wp2_with fail
 refine (take_yes (t := [60, 33, 45, 45]) H0.out).mono ?_
 rintro e w1 ⟨rfl, ho, h1⟩
 have H1 := Lib.hid h1
 have HO1 := Lib.hid (HO0.out.trans ((och base ho).mono fun _ _ e => e))
 clear ho h1
 go_wp2_with fail
 refine (note_can H1.out HC.out).mono ?_
 rintro e w9 h9
 have H9 := Lib.hid (h9.after HO1.out)
 obtain ⟨o9, rfl, _⟩ := h9
 go_wp2
 go_end0
 exact H9.out
set_option maxRecDepth 100000 in
set_option maxHeartbeats 1000000 in
theorem next_pi {w : World} {b base : Nat} {n x r : Bs} {ts : List Tok} {o : Value} (h : Can w b base (60 :: 63 :: (n ++ (x ++ 63 :: 62 :: r))) ts o) (hts : ts ≠ []) (hn : Nm (n ++ (x ++ 63 :: 62 :: r)) n (x ++ 63 :: 62 :: r)) (hc : Lib.cut (x ++ 63 :: 62 :: r) [63, 62] = (x, r, true)) (hl : Lib.toLowerD n ≠ [120, 109, 108]) (hx : x = [] ∨ (Lib.trimLeftS x [32, 9, 10, 13]).length < x.length) :
  Calls Tryz.prog 34 #[.pointer (some ⟨b, 0, none⟩)] w (Stepped b base r (ts ++ [⟨4, n, [], false, Lib.trimLeftS x [32, 9, 10, 13]⟩]) w) := by
 have HD := Lib.hid (show xmlP.isPrefixOf (60 :: 63 :: (n ++ (x ++ 63 :: 62 :: r))) = false ∨ ts ≠ [] from .inr hts)
 have HP1 := Lib.hid (show List.isPrefixOf ([60, 33, 45, 45] : Bs) (60 :: 63 :: (n ++ (x ++ 63 :: 62 :: r))) = false from rfl)
 have HP2 := Lib.hid (show List.isPrefixOf ([60, 33, 91, 67, 68, 65, 84, 65, 91] : Bs) (60 :: 63 :: (n ++ (x ++ 63 :: 62 :: r))) = false from rfl)
 have HP3 := Lib.hid (show List.isPrefixOf ([60, 33, 68, 79, 67, 84, 89, 80, 69] : Bs) (60 :: 63 :: (n ++ (x ++ 63 :: 62 :: r))) = false from rfl)
 have HC := Lib.hid (And.intro hn (And.intro hc (And.intro hl hx)))
 clear hn hc hl hx hts
 have H0 := Lib.hid h
 have HO0 := Lib.hid (Off.refl (fun k => k = b ∨ base ≤ k) w)
 clear h
 go_enter Tryz.func34, Tryz.ntmps34
 go_wp2_with fail
 refine (declared_no H0.out HD.out).mono ?_
 rintro e w0 ⟨rfl, rfl⟩
 go_wp2_with fail
 refine (take_no (t := [60, 33, 45, 45]) H0.out HP1.out).mono ?_
 rintro e w1 ⟨rfl, ho, h1⟩
 have H1 := Lib.hid h1
 have HO1 := Lib.hid (HO0.out.trans ((och base ho).mono fun _ _ e => e))
 clear ho h1
 go_wp2_with fail
 refine (take_no (t := [60, 33, 91, 67, 68, 65, 84, 65, 91]) H1.out HP2.out).mono ?_
 rintro e w2 ⟨rfl, ho, h1⟩
 have H2 := Lib.hid h1
 have HO2 := Lib.hid (HO1.out.trans ((och base ho).mono fun _ _ e => e))
 clear ho h1
 go_wp2_with fail
 refine (take_no (t := [60, 33, 68, 79, 67, 84, 89, 80, 69]) H2.out HP3.out).mono ?_
 rintro e w3 ⟨rfl, ho, h1⟩
 have H3 := Lib.hid h1
 have HO3 := Lib.hid (HO2.out.trans ((och base ho).mono fun _ _ e => e))
 clear ho h1
 go_wp2_with fail
 refine (take_yes (t := [60, 63]) H3.out).mono ?_
 rintro e w4 ⟨rfl, ho, h1⟩
 have H4 := Lib.hid h1
 have HO4 := Lib.hid (HO3.out.trans ((och base ho).mono fun _ _ e => e))
 clear ho h1
 go_wp2_with fail
 refine (pi_can H4.out HC.out.1 HC.out.2.1 HC.out.2.2.1 HC.out.2.2.2).mono ?_
 rintro e w9 h9
 have H9 := Lib.hid (h9.after HO4.out)
 obtain ⟨o9, rfl, _⟩ := h9
 go_wp2
 go_end0
 exact H9.out
set_option maxRecDepth 100000 in
set_option maxHeartbeats 1000000 in
theorem next_shut {w : World} {b base : Nat} {n r : Bs} {ts : List Tok} {o : Value} (h : Can w b base (60 :: 47 :: (n ++ 62 :: r)) ts o) (hn : Nm (n ++ 62 :: r) n (62 :: r)) :
  Calls Tryz.prog 34 #[.pointer (some ⟨b, 0, none⟩)] w (Stepped b base r (ts ++ [⟨1, n, [], false, []⟩]) w) := by
 have HD := Lib.hid (show xmlP.isPrefixOf (60 :: 47 :: (n ++ 62 :: r)) = false ∨ ts ≠ [] from .inl rfl)
 have HP1 := Lib.hid (show List.isPrefixOf ([60, 33, 45, 45] : Bs) (60 :: 47 :: (n ++ 62 :: r)) = false from rfl)
 have HP2 := Lib.hid (show List.isPrefixOf ([60, 33, 91, 67, 68, 65, 84, 65, 91] : Bs) (60 :: 47 :: (n ++ 62 :: r)) = false from rfl)
 have HP3 := Lib.hid (show List.isPrefixOf ([60, 33, 68, 79, 67, 84, 89, 80, 69] : Bs) (60 :: 47 :: (n ++ 62 :: r)) = false from rfl)
 have HP4 := Lib.hid (show List.isPrefixOf ([60, 63] : Bs) (60 :: 47 :: (n ++ 62 :: r)) = false from rfl)
 have HC := Lib.hid hn
 clear hn
 have H0 := Lib.hid h
 have HO0 := Lib.hid (Off.refl (fun k => k = b ∨ base ≤ k) w)
 clear h
 go_enter Tryz.func34, Tryz.ntmps34
 go_wp2_with fail
 refine (declared_no H0.out HD.out).mono ?_
 rintro e w0 ⟨rfl, rfl⟩
 go_wp2_with fail
 refine (take_no (t := [60, 33, 45, 45]) H0.out HP1.out).mono ?_
 rintro e w1 ⟨rfl, ho, h1⟩
 have H1 := Lib.hid h1
 have HO1 := Lib.hid (HO0.out.trans ((och base ho).mono fun _ _ e => e))
 clear ho h1
 go_wp2_with fail
 refine (take_no (t := [60, 33, 91, 67, 68, 65, 84, 65, 91]) H1.out HP2.out).mono ?_
 rintro e w2 ⟨rfl, ho, h1⟩
 have H2 := Lib.hid h1
 have HO2 := Lib.hid (HO1.out.trans ((och base ho).mono fun _ _ e => e))
 clear ho h1
 go_wp2_with fail
 refine (take_no (t := [60, 33, 68, 79, 67, 84, 89, 80, 69]) H2.out HP3.out).mono ?_
 rintro e w3 ⟨rfl, ho, h1⟩
 have H3 := Lib.hid h1
 have HO3 := Lib.hid (HO2.out.trans ((och base ho).mono fun _ _ e => e))
 clear ho h1
 go_wp2_with fail
 refine (take_no (t := [60, 63]) H3.out HP4.out).mono ?_
 rintro e w4 ⟨rfl, ho, h1⟩
 have H4 := Lib.hid h1
 have HO4 := Lib.hid (HO3.out.trans ((och base ho).mono fun _ _ e => e))
 clear ho h1
 go_wp2_with fail
 refine (take_yes (t := [60, 47]) H4.out).mono ?_
 rintro e w5 ⟨rfl, ho, h1⟩
 have H5 := Lib.hid h1
 have HO5 := Lib.hid (HO4.out.trans ((och base ho).mono fun _ _ e => e))
 clear ho h1
 go_wp2_with fail
 refine (shut_can H5.out HC.out).mono ?_
 rintro e w9 h9
 have H9 := Lib.hid (h9.after HO5.out)
 obtain ⟨o9, rfl, _⟩ := h9
 go_wp2
 go_end0
 exact H9.out
set_option maxRecDepth 100000 in
set_option maxHeartbeats 1000000 in
theorem next_opens {w : World} {b base : Nat} {n s r : Bs} {l : List (Bs × Bs)} {al : Bool} {ts : List Tok} {o : Value} (h : Can w b base (60 :: (n ++ s)) ts o) (hn : Nm (n ++ s) n s) (ha : Ats [] s l al r) (hf : l.length ≤ 1000000) :
  Calls Tryz.prog 34 #[.pointer (some ⟨b, 0, none⟩)] w (Stepped b base r (ts ++ [⟨0, n, l, al, []⟩]) w) := by
 have HD := Lib.hid (show xmlP.isPrefixOf (60 :: (n ++ s)) = false ∨ ts ≠ [] from .inl (pre_cons (name_pre hn 63 [120, 109, 108] (by decide) (by decide))))
 have HP1 := Lib.hid (show List.isPrefixOf ([60, 33, 45, 45] : Bs) (60 :: (n ++ s)) = false from pre_cons (name_pre hn 33 [45, 45] (by decide) (by decide)))
 have HP2 := Lib.hid (show List.isPrefixOf ([60, 33, 91, 67, 68, 65, 84, 65, 91] : Bs) (60 :: (n ++ s)) = false from pre_cons (name_pre hn 33 [91, 67, 68, 65, 84, 65, 91] (by decide) (by decide)))
 have HP3 := Lib.hid (show List.isPrefixOf ([60, 33, 68, 79, 67, 84, 89, 80, 69] : Bs) (60 :: (n ++ s)) = false from pre_cons (name_pre hn 33 [68, 79, 67, 84, 89, 80, 69] (by decide) (by decide)))
 have HP4 := Lib.hid (show List.isPrefixOf ([60, 63] : Bs) (60 :: (n ++ s)) = false from pre_cons (name_pre hn 63 [] (by decide) (by decide)))
 have HP5 := Lib.hid (show List.isPrefixOf ([60, 47] : Bs) (60 :: (n ++ s)) = false from pre_cons (name_pre hn 47 [] (by decide) (by decide)))
 have HC := Lib.hid (And.intro hn ha)
 clear hn ha
 have H0 := Lib.hid h
 have HO0 := Lib.hid (Off.refl (fun k => k = b ∨ base ≤ k) w)
 clear h
 go_enter Tryz.func34, Tryz.ntmps34
 go_wp2_with fail
 refine (declared_no H0.out HD.out).mono ?_
 rintro e w0 ⟨rfl, rfl⟩
 go_wp2_with fail
 refine (take_no (t := [60, 33, 45, 45]) H0.out HP1.out).mono ?_
 rintro e w1 ⟨rfl, ho, h1⟩
 have H1 := Lib.hid h1
 have HO1 := Lib.hid (HO0.out.trans ((och base ho).mono fun _ _ e => e))
 clear ho h1
 go_wp2_with fail
 refine (take_no (t := [60, 33, 91, 67, 68, 65, 84, 65, 91]) H1.out HP2.out).mono ?_
 rintro e w2 ⟨rfl, ho, h1⟩
 have H2 := Lib.hid h1
 have HO2 := Lib.hid (HO1.out.trans ((och base ho).mono fun _ _ e => e))
 clear ho h1
 go_wp2_with fail
 refine (take_no (t := [60, 33, 68, 79, 67, 84, 89, 80, 69]) H2.out HP3.out).mono ?_
 rintro e w3 ⟨rfl, ho, h1⟩
 have H3 := Lib.hid h1
 have HO3 := Lib.hid (HO2.out.trans ((och base ho).mono fun _ _ e => e))
 clear ho h1
 go_wp2_with fail
 refine (take_no (t := [60, 63]) H3.out HP4.out).mono ?_
 rintro e w4 ⟨rfl, ho, h1⟩
 have H4 := Lib.hid h1
 have HO4 := Lib.hid (HO3.out.trans ((och base ho).mono fun _ _ e => e))
 clear ho h1
 go_wp2_with fail
 refine (take_no (t := [60, 47]) H4.out HP5.out).mono ?_
 rintro e w5 ⟨rfl, ho, h1⟩
 have H5 := Lib.hid h1
 have HO5 := Lib.hid (HO4.out.trans ((och base ho).mono fun _ _ e => e))
 clear ho h1
 go_wp2_with fail
 refine (take_yes (t := [60]) H5.out).mono ?_
 rintro e w6 ⟨rfl, ho, h1⟩
 have H6 := Lib.hid h1
 have HO6 := Lib.hid (HO5.out.trans ((och base ho).mono fun _ _ e => e))
 clear ho h1
 go_wp2_with fail
 refine (opens_can H6.out HC.out.1 HC.out.2 hf).mono ?_
 rintro e w9 h9
 have H9 := Lib.hid (h9.after HO6.out)
 obtain ⟨o9, rfl, _⟩ := h9
 go_wp2
 go_end0
 exact H9.out
set_option maxRecDepth 100000 in
set_option maxHeartbeats 1000000 in
theorem next_chars {w : World} {b base : Nat} {u v r : Bs} {ts : List Tok} {o : Value} (h : Can w b base (u ++ r) ts o) (h0 : u ≠ []) (hu : ∀ c ∈ u, c ≠ 60) (hr : r = [] ∨ ∃ t, r = 60 :: t) (hi : Lib.index u [93, 93, 62] = -1) (he : Exp id u v) (hv : v.length ≤ 4294967000) :
  Calls Tryz.prog 34 #[.pointer (some ⟨b, 0, none⟩)] w (Stepped b base r (ts ++ [⟨2, [], [], u.contains 38, v⟩]) w) := by
 have HD := Lib.hid (show xmlP.isPrefixOf (u ++ r) = false ∨ ts ≠ [] from .inl (pre_head h0 hu [63, 120, 109, 108]))
 have HP1 := Lib.hid (show List.isPrefixOf ([60, 33, 45, 45] : Bs) (u ++ r) = false from pre_head h0 hu [33, 45, 45])
 have HP2 := Lib.hid (show List.isPrefixOf ([60, 33, 91, 67, 68, 65, 84, 65, 91] : Bs) (u ++ r) = false from pre_head h0 hu [33, 91, 67, 68, 65, 84, 65, 91])
 have HP3 := Lib.hid (show List.isPrefixOf ([60, 33, 68, 79, 67, 84, 89, 80, 69] : Bs) (u ++ r) = false from pre_head h0 hu [33, 68, 79, 67, 84, 89, 80, 69])
 have HP4 := Lib.hid (show List.isPrefixOf ([60, 63] : Bs) (u ++ r) = false from pre_head h0 hu [63])
 have HP5 := Lib.hid (show List.isPrefixOf ([60, 47] : Bs) (u ++ r) = false from pre_head h0 hu [47])
 have HP6 := Lib.hid (show List.isPrefixOf ([60] : Bs) (u ++ r) = false from pre_head h0 hu [])
 have HC := Lib.hid (And.intro hu (And.intro hr (And.intro hi he)))
 clear hu hr hi he h0
 have H0 := Lib.hid h
 have HO0 := Lib.hid (Off.refl (fun k => k = b ∨ base ≤ k) w)
 clear h
 go_enter Tryz.func34, Tryz.ntmps34
 go_wp2_with fail
 refine (declared_no H0.out HD.out).mono ?_
 rintro e w0 ⟨rfl, rfl⟩
 go_wp2_with fail
 refine (take_no (t := [60, 33, 45, 45]) H0.out HP1.out).mono ?_
 rintro e w1 ⟨rfl, ho, h1⟩
 have H1 := Lib.hid h1
 have HO1 := Lib.hid (HO0.out.trans ((och base ho).mono fun _ _ e => e))
 clear ho h1
 go_wp2_with fail
 refine (take_no (t := [60, 33, 91, 67, 68, 65, 84, 65, 91]) H1.out HP2.out).mono ?_
 rintro e w2 ⟨rfl, ho, h1⟩
 have H2 := Lib.hid h1
 have HO2 := Lib.hid (HO1.out.trans ((och base ho).mono fun _ _ e => e))
 clear ho h1
 go_wp2_with fail
 refine (take_no (t := [60, 33, 68, 79, 67, 84, 89, 80, 69]) H2.out HP3.out).mono ?_
 rintro e w3 ⟨rfl, ho, h1⟩
 have H3 := Lib.hid h1
 have HO3 := Lib.hid (HO2.out.trans ((och base ho).mono fun _ _ e => e))
 clear ho h1
 go_wp2_with fail
 refine (take_no (t := [60, 63]) H3.out HP4.out).mono ?_
 rintro e w4 ⟨rfl, ho, h1⟩
 have H4 := Lib.hid h1
 have HO4 := Lib.hid (HO3.out.trans ((och base ho).mono fun _ _ e => e))
 clear ho h1
 go_wp2_with fail
 refine (take_no (t := [60, 47]) H4.out HP5.out).mono ?_
 rintro e w5 ⟨rfl, ho, h1⟩
 have H5 := Lib.hid h1
 have HO5 := Lib.hid (HO4.out.trans ((och base ho).mono fun _ _ e => e))
 clear ho h1
 go_wp2_with fail
 refine (take_no (t := [60]) H5.out HP6.out).mono ?_
 rintro e w6 ⟨rfl, ho, h1⟩
 have H6 := Lib.hid h1
 have HO6 := Lib.hid (HO5.out.trans ((och base ho).mono fun _ _ e => e))
 clear ho h1
 go_wp2_with fail
 refine (chars_can H6.out HC.out.1 HC.out.2.1 HC.out.2.2.1 HC.out.2.2.2 hv).mono ?_
 rintro e w9 h9
 have H9 := Lib.hid (h9.after HO6.out)
 obtain ⟨o9, rfl, _⟩ := h9
 go_wp2
 go_end0
 exact H9.out
theorem exp_len2 {pl : Bs → Bs} (hp : ∀ u, (pl u).length = u.length) {u v : Bs} (h : Exp pl u v) : v.length ≤ u.length := by
 induction h with
 | last u hu => rw [hp]; exact Nat.le_refl _
 | more u name v behind out hu hn he ih =>
   have hv : v.length = 1 := by
    simp only [refs, List.mem_cons, Prod.mk.injEq, List.not_mem_nil, or_false] at hn
    rcases hn with ⟨rfl, rfl⟩ | ⟨rfl, rfl⟩ | ⟨rfl, rfl⟩ | ⟨rfl, rfl⟩ | ⟨rfl, rfl⟩ | ⟨rfl, rfl⟩ | ⟨rfl, rfl⟩ <;> rfl
   simp only [List.length_append, List.length_cons, hp]
   omega
theorem ats_len {pre : List Bs} {s : Bs} {l : List (Bs × Bs)} {al : Bool} {r : Bs} (h : Ats pre s l al r) : l.length + r.length < s.length := by
 induction h with
 | alone pre r => simp only [List.length_cons, List.length_nil]; omega
 | done pre r => simp only [List.length_cons, List.length_nil]; omega
 | more pre n u v r q l al r' hq hn hu he hp ha ih =>
   simp only [List.length_append, List.length_cons]
   omega
theorem nx_len {f : Bool} {s : Bs} {t : Tok} {r : Bs} (h : Nx f s t r) : r.length < s.length := by
 cases h with
 | decl r => simp only [List.length_append, List.length_cons, List.length_nil]; omega
 | note b d r hc => simp only [List.length_append, List.length_cons]; omega
 | pi n x r hn hc hl hx => simp; omega
 | shut b n r hn => simp; omega
 | opens b n s l al r hn ha => have := ats_len ha; simp; omega
 | chars b u v r h0 hu hr hi he =>
   have := List.length_pos_iff.2 h0
   simp only [List.length_append]
   omega
theorem nxs_len {f : Bool} {s : Bs} {l : List Tok} (h : Nxs f s l) : l.length ≤ s.length := by
 induction h with
 | nil => simp
 | cons b s r t ts hx hr ih =>
   have := nx_len hx
   simp only [List.length_cons]
   omega
def DeclOk : Prop := ∀ {w : World} {b base : Nat} {r : Bs} {o : Value}, Can w b base ([60, 63, 120, 109, 108, 32, 118, 101, 114, 115, 105, 111, 110, 61, 34, 49, 46, 48, 34, 63, 62] ++ r) [] o →
 Calls Tryz.prog 34 #[.pointer (some ⟨b, 0, none⟩)] w (Stepped b base r [⟨5, [], [], false, []⟩] w)
theorem next_any {w : World} {b base : Nat} {f : Bool} {s r : Bs} {t : Tok} {ts : List Tok} {o : Value} (h : Can w b base s ts o) (hx : Nx f s t r) (hf : f = false → ts ≠ []) (hf2 : f = true → ts = []) (hD : DeclOk ∨ t.kind ≠ 5) (hshort : s.length ≤ 1000000) :
  Calls Tryz.prog 34 #[.pointer (some ⟨b, 0, none⟩)] w (Stepped b base r (ts ++ [t]) w) := by
 have hlen := h.len
 cases hx with
 | decl r =>
   obtain rfl := hf2 rfl
   rcases hD with hD | hD
   ·exact hD h
   ·exact absurd rfl hD
 | note b d r hc => exact next_note h hc
 | pi n x r hn hc hl hx => exact next_pi h (hf rfl) hn hc hl hx
 | shut b n r hn => exact next_shut h hn
 | opens b n s l al r hn ha =>
   have := ats_len ha
   exact next_opens h hn ha (by simp only [List.length_cons, List.length_append] at hshort; omega)
 | chars b u v r h0 hu hr hi he =>
   have := exp_len2 (fun _ => rfl) he
   exact next_chars h h0 hu hr hi he (by rw [List.length_append] at hlen; omega)
theorem idle79 (p q : Addr) (w : World) : CallsD Tryz.prog 32 #[.pointer (some p), .pointer (some q)] .returning w fun e u' w' => e = .returned (.tuple #[]) ∧ u' = .returning ∧ w' = w := by
 refine callsD_of_wpS Tryz.func32 rfl fun c₀ cs hu => ?_
 apply wpS_seq
 apply wpS_region
 simp [wpOpsS, go_sem, recoverD, hu, Tryz.ntmps32, Exit.thenS]
 apply wpS_seq
 apply wpS_region
 simp [wpOpsS, go_sem, Exit.thenS]
 refine wpS_cond (t := false) (by simp [Act.eval, Array.replicate]) ?_
 simp only [Bool.false_eq_true, if_false]
 refine wpS_of_wp (wp_skip ?_)
 cases c₀
 simp_all [bodyPostS, results, Tryz.results32]
structure TkAt (w : World) (toks : List Tok) (b : Nat) (s : Bs) (ts rest : List Tok) (o : Value) (wr : World) : Prop where
 can : Can wr b (b + 1) s ts o
 r1 : Boxed wr w.heap.size 50 (.slice none 0 0)
 r2 : Boxed wr (w.heap.size + 1) 28 (.int .i64 0)
 low : w.heap.size + 2 ≤ b
 below : Below w.heap.size w wr
 nxs : Nxs ts.isEmpty s rest
 sum : ts ++ rest = toks
 few : ts.length + s.length ≤ 100000
theorem nxs_inv {f : Bool} {s : Bs} {l : List Tok} (h : Nxs f s l) : (s = [] ∧ l = []) ∨ ∃ r t ts, l = t :: ts ∧ Nx f s t r ∧ Nxs false r ts := by
 cases h with
 | nil => exact .inl ⟨rfl, rfl⟩
 | cons _ _ r t ts hx hr => exact .inr ⟨r, t, ts, rfl, hx, hr⟩
theorem nxs_any {s : Bs} {l : List Tok} (h : Nxs false s l) (ts : List Tok) (t : Tok) : Nxs (ts ++ [t]).isEmpty s l := by
 have : (ts ++ [t]).isEmpty = false := by simp
 rw [this]
 exact h
theorem TkAt.step {w : World} {toks : List Tok} {b : Nat} {s r : Bs} {ts rest : List Tok} {t : Tok} {o o' : Value} {wr wr' : World} (h : TkAt w toks b s ts (t :: rest) o wr) (hx : Nx ts.isEmpty s t r) (hr : Nxs false r rest) (hs : Sc wr' b (b + 1) r (ts ++ [t]) o') (hc : Ch b (b + 1) wr wr') :
  TkAt w toks b r (ts ++ [t]) rest o' wr' := by
 have hl := nx_len hx
 have hlow := h.low
 have hbl := h.can.sc.scan.lt
 have hsum := h.sum
 have hn := nxs_len h.nxs
 have hn2 := nxs_len hr
 have hroom := h.can.room
 have hsh := h.few
 refine ⟨⟨hs, h.can.gb.off hc (fun k hk => by omega), by have := h.can.len; omega, ?_⟩, (hc.block _ h.r1.lt (by omega)).trans h.r1, (hc.block _ h.r2.lt (by omega)).trans h.r2, h.low, ?_, nxs_any hr ts t, by rw [List.append_assoc]; exact hsum, by rw [List.length_append, List.length_singleton]; omega⟩
 ·rw [List.length_append, List.length_singleton]
  omega
 ·exact h.below.trans ⟨hc.os, hc.tape, hc.output, hc.size, fun k hk => hc.block k (Nat.lt_of_lt_of_le hk h.below.size) (by omega)⟩
structure Res2 (t : TypeId) (v : Value) (w W : World) : Prop where
 below : Below w.heap.size w W
 r1 : Boxed W w.heap.size t v
 r2 : Boxed W (w.heap.size + 1) 28 (.int .i64 0)
theorem Res2.low {t : TypeId} {v : Value} {w W W' : World} (h : Res2 t v w W) (hb : Below W.heap.size W W') : Res2 t v w W' :=
 ⟨h.below.trans (hb.mono h.below.size), (hb.block _ h.r1.lt).trans h.r1, (hb.block _ h.r2.lt).trans h.r2⟩
theorem Res2.new (t : TypeId) (v : Value) (w : World) : Res2 t v w ((w.alloc (.cells #[v] t)).alloc (.cells #[.int .i64 0] 28)) :=
 ⟨((Below.refl _ w).alloc (Nat.le_refl _) _).alloc (by simp) _, (Boxed.new w t v).alloc _, by
   have := Boxed.new (w.alloc (.cells #[v] t)) 28 (.int .i64 0)
   simpa using this⟩
set_option maxRecDepth 100000 in
set_option maxHeartbeats 1000000 in
theorem tokens_calls (s : Bs) (toks : List Tok) (w : World) (hG : Glob w) (hs : s.length ≤ 100000) (hk : checkR (M s) = 0) (hl : U.linesL s = s) (hx : Nxs true s toks) (hD : DeclOk ∨ ∀ t ∈ toks, t.kind ≠ 5) :
  Calls Tryz.prog 17 #[.string (M s)] w fun e w' => ∃ v, e = .returned (.tuple #[v, .int .i64 0]) ∧ kTok.R 60 w' w.heap.size (fun _ => True) v toks ∧ Below w.heap.size w w' := by
 have hmf : ∀ (fn : Fn) (first cap : Array Value) (w : World), (Instr.makeFunc fn first cap).run Tryz.prog w = .ok (.func fn first cap) w := fun _ _ _ _ => rfl
 have hsz : (M s).size = s.length := rfl
 have hsz2 : (M s).size ≤ 100000 := hs
 have HG := Lib.hid hG
 have HK := Lib.hid hk
 have HL := Lib.hid hl
 have HX := Lib.hid hx
 have HD := Lib.hid hD
 clear hG hk hl hx hD hsz
 go_enter_defers Tryz.func17, Tryz.ntmps17
 go_wp2_with fail
 have HB := Lib.hid (Res2.new 50 (.slice none 0 0) w)
 generalize (w.alloc (.cells #[.slice none 0 0] 50)).alloc (.cells #[.int .i64 0] 28) = W0 at *
 refine (check_calls (M s) W0 (HG.out.below HB.out.below) (by omega)).mono ?_
 rintro e w1 ⟨rfl, h1⟩
 rw [HK.out]
 have H1 := Lib.hid (HB.out.low h1)
 clear h1
 go_wp2_with fail
 refine (glyph_Lines.calls (M s) (M s) w1 (HG.out.below H1.out.below) (by have := U.glines s (by omega); rw [HL.out] at this; exact this)).mono ?_
 rintro e w2 ⟨rfl, h2⟩
 have H2 := Lib.hid (H1.out.low h2)
 clear h2
 go_wp2_with fail
 have hb0 := Below.refl w2.heap.size w2
 have hT : TkAt w toks w2.heap.size s [] toks (.slice none 0 0) (w2.alloc (.cells #[.string (M s), .slice none 0 0] 74)) := by
  have h3 := H2.out.low (hb0.alloc (Nat.le_refl _) (.cells #[.string (M s), .slice none 0 0] 74))
  have hlt := H2.out.r2.lt
  refine ⟨⟨⟨Blk.new _ _ _, Kd.R_nil _ _ _ _ _, by omega, by rw [World.size_alloc]; exact Nat.le_refl _, by simp⟩, ⟨w, HG.out, by omega, h3.below⟩, by omega, by simp⟩, h3.r1, h3.r2, by omega, h3.below, HX.out, rfl, by simpa using hs⟩
 have HT := Aside0.mk hT
 clear hT hb0
 generalize w2.alloc (.cells #[.string (M s), .slice none 0 0] 74) = W1 at *
 generalize w2.heap.size = b at *
 go_loopw [23] (fun _ wr => ∃ s' ts rest o, Aside0 (TkAt w toks b s' ts rest o wr)) (fun _ wr => scanLen wr b)
 case atStart => exact ⟨s, [], toks, _, HT⟩
 case round =>
  obtain ⟨s', ts, rest, o, HR⟩ := hrel
  have hc0 : wr.cell? ⟨b, 0, none⟩ = some (.string (M s')) := HR.out.can.sc.scan.cell 0
  rcases nxs_inv HR.out.nxs with ⟨rfl, rfl⟩ | ⟨r, t, rest, rfl, hx, hr⟩
  ·obtain ⟨A, c, rfl⟩ := Kd.R_slice HR.out.can.sc.row
   have hc1 : wr.cell? ⟨b, 1, none⟩ = some (.slice A ts.length c) := HR.out.can.sc.scan.cell 1
   have q1 := HR.out.r1.cell
   have q2 := HR.out.r2.cell
   have g1 := HR.out.r1.frozen
   have g2 := HR.out.r2.frozen
   have hlow := HR.out.low
   go_wp2
   refine leaves_cons (f := 32) (args := #[.pointer (some ⟨w.heap.size, 0, none⟩), .pointer (some ⟨w.heap.size + 1, 0, none⟩)]) (by simp) (by simp [go_sem]) ?_
   refine (idle79 _ _ _).mono ?_
   rintro e u' w'' ⟨rfl, rfl, rfl⟩
   have hts : ts = toks := by have := HR.out.sum; simpa using this
   have hr1 := Kd.R_set HR.out.can.sc.row HR.out.r1 (by decide) 0 (.slice A ts.length c)
   have hr2 := Kd.R_set hr1 (show (wr.setCell ⟨w.heap.size, 0, none⟩ (.slice A ts.length c)).heap[w.heap.size + 1]? = some (.cells #[.int .i64 0] 28) from (Below.heap_setCell _ _ _ _ (show w.heap.size + 1 ≠ w.heap.size by omega)).trans HR.out.r2) (by decide) 0 (.int .i64 0)
   have hr3 : kTok.R 60 ((wr.setCell ⟨w.heap.size, 0, none⟩ (.slice A ts.length c)).setCell ⟨w.heap.size + 1, 0, none⟩ (.int .i64 0)) w.heap.size (fun _ => True) (.slice A ts.length c) toks := by
    rw [hts] at hr2 ⊢
    exact Kd.R_mono (Kd.R_lower hr2 (by omega)) (fun _ _ => trivial)
   have hb := (HR.out.below.setCell (p := ⟨w.heap.size, 0, none⟩) (Nat.le_refl _) (.slice A ts.length c)).setCell (p := ⟨w.heap.size + 1, 0, none⟩) (by show w.heap.size ≤ w.heap.size + 1; omega) (.int .i64 0)
   simp [Leaves, settle, results, Tryz.results17, go_sem, q1, q2, hb]
   exact hr3
  ·have hne : (s' == ([] : List UInt8)) = false := by
    have := nx_len hx
    cases s' with
    | nil => simp at this
    | cons a l => rfl
   have hD : DeclOk ∨ t.kind ≠ 5 := HD.out.imp id fun h => h t (by rw [← HR.out.sum]; simp)
   have HN := Lib.hid (And.intro hx (And.intro hr (And.intro hD (scanLen_eq HR.out.can.sc.scan))))
   clear hx hr hD
   go_wp2_with fail
   refine (next_any HR.out.can HN.out.1 (fun e h => by rw [h] at e; cases e) (fun e => by simpa using e) HN.out.2.2.1 (by have := HR.out.few; omega)).mono ?_
   rintro e w5 ⟨o5, rfl, hs5, hc5⟩
   have H5 := Aside0.mk (HR.out.step HN.out.1 HN.out.2.1 hs5 hc5)
   have HS5 := Lib.hid (And.intro (scanLen_eq hs5.scan) (nx_len HN.out.1))
   clear hs5 hc5 hne
   go_wp2
   go_roundw
   case rel => exact ⟨r, _, rest, o5, H5⟩
   case measure =>
    rw [HN.out.2.2.2, HS5.out.1]
    exact HS5.out.2
def trF (d : Kd Tr) : Kd Tr := Kd.iso (Kd.pair (Kd.int .i64) (Kd.pair Kd.string (Kd.pair Kd.string (Kd.pair (Kd.slice 38 kAttr) (Kd.pair (Kd.slice 25 d) Kd.string))))) (fun t => (t.kind, (M t.sp, (M t.nm, (t.attrs, (t.kids, M t.data))))))
theorem trF_sz (n : Nat) : (Kd.upto trF 6 [38, 25] n).sz = 6 := by cases n <;> rfl
theorem trF_E : ∀ (n : Nat) (q : Nat), q ∈ (Kd.upto trF 6 [38, 25] n).E → q ∈ [38, 25] := by
 intro n
 induction n with
 | zero => exact fun q h => h
 | succ n ih =>
   intro q h
   have h' : q ∈ ([] : List Nat) ++ ([] ++ ([] ++ ((38 :: []) ++ ((25 :: (Kd.upto trF 6 [38, 25] n).E) ++ [])))) := h
   simp only [List.nil_append, List.append_nil, List.mem_append, List.mem_cons, List.not_mem_nil, or_false] at h'
   rcases h' with rfl | rfl | h'
   ·simp
   ·simp
   ·exact ih q h'
def kTr : Kd Tr := Kd.fix trF 6 [38, 25] trF_sz trF_E
theorem kTr_E : kTr.E = [38, 25] := rfl
theorem upto_succ_M (n : Nat) {w : World} {base : Nat} {ok : Nat → Prop} : ∀ {t : Tr} {cs : List Value}, (Kd.upto trF 6 [38, 25] n).M w base ok t cs → (Kd.upto trF 6 [38, 25] (n + 1)).M w base ok t cs := by
 induction n generalizing ok with
 | zero => intro t cs h; exact h.elim
 | succ n ih =>
   rintro t cs ⟨c0, c1, rfl, h0, c2, c3, rfl, h2, c4, c5, rfl, h4, c6, c7, rfl, h6, c8, c9, rfl, ⟨v, rfl, hr0, inner, ho, hr⟩, h9⟩
   rw [trF_sz] at ho hr
   exact ⟨c0, _, rfl, h0, c2, _, rfl, h2, c4, _, rfl, h4, c6, _, rfl, h6, _, c9, rfl, ⟨v, rfl, hr0, inner, by rw [trF_sz]; exact ho, by rw [trF_sz]; exact hr.imp_ fun _ _ hp => ih hp⟩, h9⟩
theorem upto_le_M {n m : Nat} (h : n ≤ m) {w : World} {base : Nat} {ok : Nat → Prop} {t : Tr} {cs : List Value} (hM : (Kd.upto trF 6 [38, 25] n).M w base ok t cs) : (Kd.upto trF 6 [38, 25] m).M w base ok t cs := by
 induction h with
 | refl => exact hM
 | step _ ih => exact upto_succ_M _ ih
theorem rows_depth {w : World} {base : Nat} {ok : Nat → Prop} {v : Value} {xs : List Tr} (h : kTr.R 25 w base ok v xs) : ∃ n, (Kd.upto trF 6 [38, 25] n).R 25 w base ok v xs := by
 obtain ⟨h0, inner, ho, hl, hr⟩ := h
 have : ∀ (xs' : List Tr) (k : Nat), xs.drop k = xs' → ∃ n, ∀ j p, k ≤ j → xs[j]? = some p → (Kd.upto trF 6 [38, 25] n).M w base (fun k => ok k ∧ some k ≠ v.ownBlock) p ((inner.drop (j * 6)).take 6) := by
  intro xs'
  induction xs' with
  | nil =>
    intro k hk
    refine ⟨0, fun j p hj hp => ?_⟩
    have := (List.getElem?_eq_some_iff.1 hp).1
    have h2 : xs.length ≤ k := by
     have := congrArg List.length hk
     rw [List.length_drop] at this
     simp at this
     omega
    omega
  | cons x xs' ih =>
    intro k hk
    have hlt : k < xs.length := by
     have := congrArg List.length hk
     rw [List.length_drop] at this
     simp at this
     omega
    obtain ⟨n, hn⟩ := ih (k + 1) (by rw [← List.drop_drop, hk]; rfl)
    have hx : xs[k]? = some x := by
     have : (xs.drop k)[0]? = some x := by rw [hk]; rfl
     simpa using this
    obtain ⟨m, hm⟩ := hr k x hx
    refine ⟨max n m, fun j p hj hp => ?_⟩
    by_cases e : j = k
    ·subst e
     rw [hx] at hp
     cases hp
     exact upto_le_M (Nat.le_max_right _ _) hm
    ·exact upto_le_M (Nat.le_max_left _ _) (hn j p (by omega) hp)
 obtain ⟨n, hn⟩ := this xs 0 rfl
 refine ⟨n, h0, inner, by rw [trF_sz]; exact ho, by rw [trF_sz]; exact hl, fun j p hp => ?_⟩
 rw [trF_sz]
 exact hn j p (Nat.zero_le _) hp
theorem kTr_mkM {w : World} {base : Nat} {ok : Nat → Prop} {t : Tr} {va vk : Value} (ha : kAttr.R 38 w base ok va t.attrs) (hk : kTr.R 25 w base ok vk t.kids) :
  kTr.M w base ok t [.int .i64 t.kind, .string (M t.sp), .string (M t.nm), va, vk, .string (M t.data)] := by
 obtain ⟨n, hn⟩ := rows_depth hk
 exact ⟨n + 1, [_], _, rfl, rfl, [_], _, rfl, rfl, [_], _, rfl, rfl, [_], _, rfl, ⟨va, rfl, ha⟩, [_], [_], rfl, ⟨vk, rfl, hn⟩, rfl⟩
theorem kTr_openM {w : World} {base : Nat} {ok : Nat → Prop} {t : Tr} {cs : List Value} (h : kTr.M w base ok t cs) :
  ∃ va vk, cs = [.int .i64 t.kind, .string (M t.sp), .string (M t.nm), va, vk, .string (M t.data)] ∧ kAttr.R 38 w base ok va t.attrs ∧ kTr.R 25 w base ok vk t.kids := by
 obtain ⟨n, h⟩ := h
 cases n with
 | zero => exact h.elim
 | succ n =>
   obtain ⟨c0, c1, rfl, rfl, c2, c3, rfl, rfl, c4, c5, rfl, rfl, c6, c7, rfl, ⟨va, rfl, ha⟩, c8, c9, rfl, ⟨vk, rfl, hr0, inner, ho, hr⟩, rfl⟩ := h
   rw [trF_sz] at ho hr
   exact ⟨va, vk, rfl, ha, hr0, inner, ho, hr.imp_ fun _ _ hp => ⟨n, hp⟩⟩
theorem kTr_openK {w : World} {t : Tr} {cs : List Value} (h : kTr.K w t cs) :
  ∃ A c B d, cs = [.int .i64 t.kind, .string (M t.sp), .string (M t.nm), .slice A t.attrs.length c, .slice B t.kids.length d, .string (M t.data)] ∧ t.attrs.length ≤ c ∧ kAttr.C w A t.attrs.length t.attrs ∧ t.kids.length ≤ d ∧ kTr.C w B t.kids.length t.kids := by
 obtain ⟨n, h⟩ := h
 cases n with
 | zero => exact h.elim
 | succ n =>
   obtain ⟨c0, c1, rfl, rfl, c2, c3, rfl, rfl, c4, c5, rfl, rfl, c6, c7, rfl, ⟨A, c, rfl, hc, hA⟩, c8, c9, rfl, ⟨B, d, rfl, hd, hB⟩, rfl⟩ := h
   refine ⟨A, c, B, d, rfl, hc, hA, hd, hB.1, hB.2.1, fun hn => ?_⟩
   obtain ⟨ad, e, hx⟩ := hB.2.2 hn
   refine ⟨ad, e, fun j p hj => ?_⟩
   obtain ⟨c', h1, h2, h3⟩ := hx j p hj
   rw [trF_sz] at h1 h3
   exact ⟨c', h1, ⟨n, h2⟩, h3⟩
end Go.Proofs.YtadgeghipimfiaaGreatDoor.X
end
section
namespace Go.Proofs.YtadgeghipimfiaaGreatDoor.Z
open Go.Proofs.YtadgeghipimfiaaGreatDoor.U
abbrev At := Bs × Bs × Bs
def escB (attr : Bool) (c : UInt8) : Bs :=
 if c = 38 then [38, 97, 109, 112, 59] else if c = 60 then [38, 108, 116, 59] else if c = 62 then [38, 103, 116, 59] else if c = 13 then [38, 35, 120, 68, 59]
 else if attr = true ∧ c = 34 then [38, 113, 117, 111, 116, 59] else if attr = true ∧ c = 9 then [38, 35, 120, 57, 59] else if attr = true ∧ c = 10 then [38, 35, 120, 65, 59] else [c]
def esc (attr : Bool) (l : Bs) : Bs := l.flatMap (escB attr)
def tXmlns : Bs := [120, 109, 108, 110, 115]
def tXml : Bs := [120, 109, 108]
def valueL (name v : Bs) : Bs := 32 :: (name ++ (61 :: 34 :: (esc true v ++ [34])))
def pre (i : Nat) : Bs := 110 :: Lib.itoa (i : Int)
def nameOf (i : Nat) (a : At) : Bs := if a.1 = [] then a.2.1 else if a.1 = V.tXML then tXml ++ 58 :: a.2.1 else pre i ++ 58 :: a.2.1
def pairsOf (i : Nat) (a : At) : List (Bs × Bs) :=
 if a.1 = [] then [(a.2.1, a.2.2)] else if a.1 = V.tXML then [(tXml ++ 58 :: a.2.1, a.2.2)] else [(tXmlns ++ 58 :: pre i, a.1), (pre i ++ 58 :: a.2.1, a.2.2)]
def pairsAll : Nat → List At → List (Bs × Bs)
 | _, [] => []
 | i, a :: l => pairsOf i a ++ pairsAll (i + 1) l
def pairsEl (sp up : Bs) (at_ : List At) : List (Bs × Bs) := (if sp = up then [] else [(tXmlns, sp)]) ++ pairsAll 0 at_
def tellPairs (l : List (Bs × Bs)) : Bs := l.flatMap fun p => valueL p.1 p.2
mutual
def spell : Tr → Bs → Bs
 | .mk k sp nm at_ kids d, up =>
   if k = 1 then esc false d
   else if k = 2 then 60 :: 33 :: 45 :: 45 :: (d ++ [45, 45, 62])
   else if k = 3 then 60 :: 63 :: (nm ++ ((if d = [] then [] else 32 :: d) ++ [63, 62]))
   else 60 :: (nm ++ (tellPairs (pairsEl sp up at_) ++ (if kids.isEmpty then [47, 62] else 62 :: (spells kids sp ++ (60 :: 47 :: (nm ++ [62]))))))
def spells : List Tr → Bs → Bs
 | [], _ => []
 | t :: ts, up => spell t up ++ spells ts up
end
mutual
def toks : Tr → Bs → List Tok
 | .mk k sp nm at_ kids d, up =>
   if k = 1 then [⟨2, [], [], (esc false d).contains 38, d⟩]
   else if k = 2 then [⟨3, [], [], false, d⟩]
   else if k = 3 then [⟨4, nm, [], false, d⟩]
   else if kids.isEmpty then [⟨0, nm, pairsEl sp up at_, true, []⟩] else ⟨0, nm, pairsEl sp up at_, false, []⟩ :: (tokss kids sp ++ [⟨1, nm, [], false, []⟩])
def tokss : List Tr → Bs → List Tok
 | [], _ => []
 | t :: ts, up => toks t up ++ tokss ts up
end
def textOk (l : Bs) : Bool := checkL l.length l == 0
def leafOk (t : Tr) : Bool :=
 t.sp.isEmpty && t.attrs.isEmpty && t.kids.isEmpty && textOk t.data &&
  (if t.kind = 1 then t.nm.isEmpty && !t.data.isEmpty
   else if t.kind = 2 then t.nm.isEmpty && !t.data.contains 13 && (Lib.index (t.data ++ [45]) [45, 45] == -1)
   else if t.kind = 3 then plainB t.nm && (Lib.toLowerD t.nm != tXml) && !t.data.contains 13 && (Lib.index t.data [63, 62] == -1) && (Lib.trimLeftS t.data [32, 9, 10, 13] == t.data)
   else false)
def attrsOkN : List (Bs × Bs) → List At → Bool
 | _, [] => true
 | had, a :: l => !had.contains (a.1, a.2.1) && plainB a.2.1 && textOk a.1 && textOk a.2.2 && (a.1 != V.tNS) && attrsOkN (had ++ [(a.1, a.2.1)]) l
def attrsOk (l : List At) : Bool := attrsOkN [([], tXmlns)] l && decide (l.length ≤ 24)
mutual
def mayB : Tr → Nat → Bool
 | .mk k sp nm at_ kids d, depth =>
   if k = 0 then decide (depth ≤ 30) && d.isEmpty && plainB nm && textOk sp && (sp != V.tNS) && (sp != V.tXML) && attrsOk at_ && mayBs kids 0 (depth + 1)
   else leafOk (.mk k sp nm at_ kids d)
def mayBs : List Tr → Int → Nat → Bool
 | [], _, _ => true
 | t :: ts, last, depth => !(decide (t.kind = 1) && decide (last = 1)) && mayB t depth && mayBs ts t.kind depth
end
def mayDoc (t : Tr) : Bool := decide (t.kind = 0) && mayB t 1
end Go.Proofs.YtadgeghipimfiaaGreatDoor.Z
end
section
namespace Go.Proofs.YtadgeghipimfiaaGreatDoor.Z
open Go.Proofs.YtadgeghipimfiaaGreatDoor.U Go.Proofs.YtadgeghipimfiaaGreatDoor.X Go.Lib
set_option maxHeartbeats 2000000 in
theorem decodeN_app (n m b0 b1 b2 b3 c1 c2 c3 : Nat) (hnm : n ≤ m) (h1 : 1 < n → c1 = b1) (h2 : 2 < n → c2 = b2) (h3 : 3 < n → c3 = b3) (hb : ¬ ((decodeN n b0 b1 b2 b3).1 = 65533 ∧ (decodeN n b0 b1 b2 b3).2 = 1)) :
  decodeN m b0 c1 c2 c3 = decodeN n b0 b1 b2 b3 := by
 revert hb
 unfold decodeN
 by_cases k1 : 1 < n
 ·rw [h1 k1]
  by_cases k2 : 2 < n
  ·rw [h2 k2]
   by_cases k3 : 3 < n
   ·rw [h3 k3]
    have q1 : 1 < m := by omega
    have q2 : 2 < m := by omega
    have q3 : 3 < m := by omega
    simp only [k1, k2, k3, q1, q2, q3]
    intro _
    first | rfl | trivial
   ·have q1 : 1 < m := by omega
    have q2 : 2 < m := by omega
    simp only [k1, k2, k3, q1, q2, false_and, and_false, if_false, true_and]
    intro hb
    split
    ·rfl
    ·split
     ·rfl
     ·rename_i a b
      split
      ·rfl
      ·rename_i c
       exfalso
       simp [a, b, c] at hb
  ·have q1 : 1 < m := by omega
   simp only [k1, k2, show ¬ 3 < n by omega, q1, false_and, and_false, if_false, true_and]
   intro hb
   split
   ·rfl
   ·split
    ·rfl
    ·rename_i a b
     exfalso
     simp [a, b] at hb
 ·simp only [k1, show ¬ 2 < n by omega, show ¬ 3 < n by omega, false_and, and_false, if_false]
  intro hb
  split
  ·rfl
  ·rename_i a
   exfalso
   simp [a] at hb
theorem decodeL_app (n r : Bs) (h0 : n ≠ []) (hb : ¬ bad n) : decodeL (n ++ r) = decodeL n := by
 have e : ∀ i, i < n.length → nb (n ++ r) i = nb n i := fun i hi => by
  unfold nb
  rw [List.getD_eq_getElem?_getD, List.getD_eq_getElem?_getD, List.getElem?_append_left hi]
 have hl : 0 < n.length := List.length_pos_iff.2 h0
 unfold bad at hb
 rw [decodeL_eq] at hb
 rw [decodeL_eq, decodeL_eq, e 0 hl]
 exact decodeN_app n.length _ _ _ _ _ _ _ _ (by simp) (e 1) (e 2) (e 3) hb
theorem bad_app (n r : Bs) (h0 : n ≠ []) (hb : ¬ bad n) : ¬ bad (n ++ r) := by unfold bad; rw [decodeL_app n r h0 hb]; exact hb
theorem firstL_app (n r : Bs) (h0 : n ≠ []) (hb : ¬ bad n) : firstL (n ++ r) = firstL n := by
 rw [firstL_good (by simp [h0]) (bad_app n r h0 hb), firstL_good h0 hb, decodeL_app n r h0 hb]
theorem decode_ascii' (c : UInt8) (t : Bs) (h : c.toNat < 128) : decodeL (c :: t) = (c.toNat, 1) := by
 rw [decodeL_eq]
 unfold decodeN
 have : nb (c :: t) 0 = c.toNat := rfl
 rw [this, if_pos h]
theorem firstL_ascii (c : UInt8) (t : Bs) (h : c.toNat < 128) : firstL (c :: t) = ((c.toNat : Int), 1) := by
 rw [firstL_good (by simp) (by unfold bad; rw [decode_ascii' c t h]; simp only; omega), decode_ascii' c t h]
 rfl
theorem high_bytes (l : Bs) (h0 : l ≠ []) (hb : ¬ bad l) (h : 128 ≤ nb l 0) : ∀ c ∈ l.take (decodeL l).2, 128 ≤ c.toNat := by
 have hl := wid_le l h0
 have key : ∀ i, i < (decodeL l).2 → 128 ≤ nb l i := by
  unfold bad at hb
  rw [decodeL_eq] at hb ⊢
  revert hb
  unfold decodeN
  rw [if_neg (by omega)]
  intro hb i hi
  revert hb hi
  split
  ·split
   ·intro _ hi
    have hi' : i < 2 := hi
    rcases (show i = 0 ∨ i = 1 by omega) with rfl | rfl <;> omega
   ·intro hb; exact absurd ⟨rfl, rfl⟩ hb
  ·split
   ·split
    ·intro _ hi
     have hi' : i < 3 := hi
     rcases (show i = 0 ∨ i = 1 ∨ i = 2 by omega) with rfl | rfl | rfl <;> omega
    ·intro hb; exact absurd ⟨rfl, rfl⟩ hb
   ·split
    ·split
     ·intro _ hi
      have hi' : i < 4 := hi
      rcases (show i = 0 ∨ i = 1 ∨ i = 2 ∨ i = 3 by omega) with rfl | rfl | rfl | rfl <;> omega
     ·intro hb; exact absurd ⟨rfl, rfl⟩ hb
    ·intro hb; exact absurd ⟨rfl, rfl⟩ hb
 intro c hc
 obtain ⟨i, hi, rfl⟩ := List.getElem_of_mem hc
 rw [List.length_take] at hi
 have := key i (by omega)
 unfold nb at this
 rw [List.getD_eq_getElem?_getD, List.getElem?_eq_getElem (by omega)] at this
 rw [List.getElem_take]
 exact this
theorem wid_one (c : UInt8) (t : Bs) (h : c.toNat < 128) : (decodeL (c :: t)).2 = 1 := by rw [decode_ascii' c t h]
theorem goesB_app (b : Bool) (n r : Bs) (h0 : n ≠ []) (h : goesB b n = true) : goesB b (n ++ r) = true ∧ decodeL (n ++ r) = decodeL n := by
 have hb : ¬ bad n := by
  intro hb
  unfold goesB at h
  rw [firstL_bad hb] at h
  simp at h
 refine ⟨?_, decodeL_app n r h0 hb⟩
 unfold goesB at h ⊢
 rw [firstL_app n r h0 hb]
 exact h
theorem goesB_false {n : Bs} (h : goesB true n = true) : goesB false n = true := by
 unfold goesB at h ⊢
 simp only [Bool.not_true, Bool.not_false, Bool.false_or, Bool.true_or, Bool.and_true, Bool.and_eq_true] at h ⊢
 exact h.1
theorem nameN_app : ∀ (f : Nat) (b : Bool) (n r : Bs), n.length ≤ f → nameN f b n = n.length → (n ≠ [] ∨ b = false) → ∀ g, (n ++ r).length ≤ g → nameN g b (n ++ r) = n.length + nameN g false r := by
 intro f
 induction f with
 | zero =>
   intro b n r hf _ hb g _
   have : n = [] := List.eq_nil_of_length_eq_zero (by omega)
   subst this
   rcases hb with hb | rfl
   ·exact absurd rfl hb
   ·simp
 | succ f ih =>
   intro b n r hf hn hb g hg
   by_cases h0 : n = []
   ·subst h0
    rcases hb with hb | rfl
    ·exact absurd rfl hb
    ·simp
   ·have hgo : goesB b n = true := by
     by_cases hgo : goesB b n = true
     ·exact hgo
     ·exfalso
      have e : nameN (f + 1) b n = 0 := by
       conv => lhs; unfold nameN
       rw [if_neg h0, if_neg hgo]
      have := List.length_pos_iff.2 h0
      omega
    obtain ⟨hgo', hd⟩ := goesB_app b n r h0 hgo
    have hw := wid_pos n
    have hwl := wid_le n h0
    have e1 : nameN (f + 1) b n = (decodeL n).2 + nameN f false (n.drop (decodeL n).2) := by
     conv => lhs; unfold nameN
     rw [if_neg h0, if_pos hgo]
    rw [List.length_append] at hg
    obtain ⟨g, rfl⟩ : ∃ k, g = k + 1 := ⟨g - 1, by have := List.length_pos_iff.2 h0; omega⟩
    have e2 : nameN (g + 1) b (n ++ r) = (decodeL n).2 + nameN g false (n.drop (decodeL n).2 ++ r) := by
     conv => lhs; unfold nameN
     rw [if_neg (by simp [h0]), if_pos hgo', hd, List.drop_append_of_le_length hwl]
    have hlen : (n.drop (decodeL n).2).length = n.length - (decodeL n).2 := List.length_drop
    rw [e2, ih false (n.drop (decodeL n).2) r (by omega) (by omega) (.inr rfl) g (by rw [List.length_append]; omega), hlen]
    have : nameN g false r = nameN (g + 1) false r := nameN_fuel _ _ _ _ (by omega) (by omega)
    omega
theorem nameN_false {f : Nat} {n : Bs} (h : nameN f true n = n.length) : nameN f false n = n.length := by
 cases f with
 | zero => exact h
 | succ f =>
   by_cases h0 : n = []
   ·subst h0; rfl
   ·unfold nameN at h ⊢
    rw [if_neg h0] at h ⊢
    by_cases hg : goesB true n = true
    ·rw [if_pos hg] at h
     rw [if_pos (goesB_false hg)]
     exact h
    ·rw [if_neg hg] at h
     have := List.length_pos_iff.2 h0
     omega
def stops (r : Bs) : Prop := r = [] ∨ ∃ c t, r = c :: t ∧ c.toNat < 128 ∧ partB c.toNat = false
theorem stops_name {r : Bs} (h : stops r) (g : Nat) : nameN g false r = 0 := by
 cases g with
 | zero => rfl
 | succ g =>
   rcases h with rfl | ⟨c, t, rfl, hc, hp⟩
   ·rfl
   ·unfold nameN
    rw [if_neg (by simp), if_neg]
    unfold goesB
    rw [firstL_ascii c t hc]
    simp [hp]
theorem nm_of {n r : Bs} (h0 : n ≠ []) (h : nameL n = n.length) (hr : stops r) : Nm (n ++ r) n r := by
 refine ⟨rfl, h0, ?_⟩
 show nameN (n ++ r).length true (n ++ r) = _
 rw [nameN_app n.length true n r (Nat.le_refl _) h (.inl h0) _ (Nat.le_refl _), stops_name hr]
 rfl
theorem plain_parts {n : Bs} (h : plainB n = true) : n ≠ [] ∧ nameL n = n.length ∧ ∀ c ∈ n, c ≠ 58 := by
 unfold plainB at h
 simp only [Bool.and_eq_true, decide_eq_true_eq] at h
 refine ⟨?_, h.1.2, ?_⟩
 ·rintro rfl; exact h.1.1 rfl
 ·have := h.2
  unfold noC at this
  rw [List.all_eq_true] at this
  intro c hc
  simpa using this c hc
theorem name_colon {p n : Bs} (hp : p ≠ []) (hpl : nameL p = p.length) (hn : nameL n = n.length) : nameL (p ++ 58 :: n) = (p ++ 58 :: n).length := by
 show nameN (p ++ 58 :: n).length true (p ++ 58 :: n) = _
 rw [nameN_app p.length true p (58 :: n) (Nat.le_refl _) hpl (.inl hp) _ (Nat.le_refl _)]
 rw [List.length_append, List.length_cons]
 obtain ⟨g, hg⟩ : ∃ g, p.length + (n.length + 1) = g + 1 := ⟨p.length + n.length, by omega⟩
 have e : nameN (g + 1) false (58 :: n) = 1 + nameN g false n := by
  conv => lhs; unfold nameN
  have hgo : goesB false (58 :: n) = true := by
   unfold goesB
   rw [firstL_ascii 58 n (by decide)]
   decide
  rw [if_neg (by simp), if_pos hgo, wid_one 58 n (by decide)]
  rfl
 rw [hg, e, nameN_fuel g n.length false n (by omega) (Nat.le_refl _), nameN_false (f := n.length) hn]
 omega
theorem name_bytes : ∀ (f : Nat) (b : Bool) (n : Bs), n.length ≤ f → nameN f b n = n.length → ∀ c ∈ n, c.toNat < 128 → partB c.toNat = true := by
 intro f
 induction f with
 | zero =>
   intro b n hf _ c hc
   have : n = [] := List.eq_nil_of_length_eq_zero (by omega)
   subst this
   cases hc
 | succ f ih =>
   intro b n hf hn c hc hlt
   have h0 : n ≠ [] := by rintro rfl; cases hc
   have hgo : goesB b n = true := by
    by_cases hgo : goesB b n = true
    ·exact hgo
    ·exfalso
     have e : nameN (f + 1) b n = 0 := by
      conv => lhs; unfold nameN
      rw [if_neg h0, if_neg hgo]
     have := List.length_pos_iff.2 h0
     omega
   have hb : ¬ bad n := by
    intro hb
    unfold goesB at hgo
    rw [firstL_bad hb] at hgo
    simp at hgo
   have hw := wid_pos n
   have hwl := wid_le n h0
   have e1 : nameN (f + 1) b n = (decodeL n).2 + nameN f false (n.drop (decodeL n).2) := by
    conv => lhs; unfold nameN
    rw [if_neg h0, if_pos hgo]
   rw [← List.take_append_drop (decodeL n).2 n] at hc
   rcases List.mem_append.1 hc with hc | hc
   ·by_cases h1 : nb n 0 < 128
    ·cases n with
     | nil => exact absurd rfl h0
     | cons d t =>
       have hd : d.toNat < 128 := h1
       rw [wid_one d t hd] at hc
       simp at hc
       subst hc
       unfold goesB at hgo
       rw [firstL_ascii c t hd] at hgo
       simp only [Bool.and_eq_true] at hgo
       exact hgo.1.2
    ·have := high_bytes n h0 hb (by omega) c hc
     omega
   ·have hlen : (n.drop (decodeL n).2).length = n.length - (decodeL n).2 := List.length_drop
    exact ih false _ (by omega) (by omega) c hc hlt
theorem name_no {n : Bs} (h : nameL n = n.length) (c : UInt8) (hc : c.toNat < 128) (hp : partB c.toNat = false) : ∀ d ∈ n, d ≠ c := by
 rintro d hd rfl
 rw [name_bytes n.length true n (Nat.le_refl _) h d hd hc] at hp
 cases hp
theorem checkL_fuel : ∀ (f g : Nat) (l : Bs), l.length ≤ f → l.length ≤ g → checkL f l = checkL g l := by
 intro f
 induction f with
 | zero =>
   intro g l hf _
   have : l = [] := List.eq_nil_of_length_eq_zero (by omega)
   subst this
   cases g <;> simp [checkL]
 | succ f ih =>
   intro g l hf hg
   cases g with
   | zero =>
     have : l = [] := List.eq_nil_of_length_eq_zero (by omega)
     subst this
     simp [checkL]
   | succ g =>
     unfold checkL
     by_cases h : l = []
     ·rw [if_pos h, if_pos h]
     ·have := wid_pos l
      rw [if_neg h, if_neg h, ih g _ (by simp; omega) (by simp; omega)]
theorem textOk_nil : textOk [] = true := rfl
theorem textOk_step (l : Bs) (h0 : l ≠ []) : textOk l = true ↔ (¬ bad l ∧ charB ((decodeL l).1 : Int) = true ∧ textOk (l.drop (decodeL l).2) = true) := by
 have hw := wid_pos l
 have hwl := wid_le l h0
 unfold textOk
 rw [beq_iff_eq, beq_iff_eq]
 obtain ⟨f, hf⟩ : ∃ f, l.length = f + 1 := ⟨l.length - 1, by omega⟩
 have hfu : checkL f (l.drop (decodeL l).2) = checkL (l.drop (decodeL l).2).length (l.drop (decodeL l).2) := checkL_fuel _ _ _ (by simp; omega) (Nat.le_refl _)
 rw [hf, ← hfu]
 have e : checkL (f + 1) l = if (firstL l).2 = 0 ∨ charB (firstL l).1 = false then 50 else checkL f (l.drop (decodeL l).2) := by
  conv => lhs; unfold checkL
  rw [if_neg h0]
 rw [e]
 by_cases hb : bad l
 ·rw [firstL_bad hb]
  simp [hb]
 ·rw [firstL_good h0 hb]
  have : ¬ (decodeL l).2 = 0 := by omega
  by_cases hc : charB ((decodeL l).1 : Int) = true
  ·simp [this, hc, hb]
  ·have hc' : charB ((decodeL l).1 : Int) = false := by simpa using hc
   simp [hc']
theorem textOk_app : ∀ (f : Nat) (a b : Bs), a.length ≤ f → textOk a = true → textOk b = true → textOk (a ++ b) = true := by
 intro f
 induction f with
 | zero =>
   intro a b hf _ hb
   have : a = [] := List.eq_nil_of_length_eq_zero (by omega)
   subst this
   exact hb
 | succ f ih =>
   intro a b hf ha hb
   by_cases h0 : a = []
   ·subst h0; exact hb
   ·obtain ⟨h1, h2, h3⟩ := (textOk_step a h0).1 ha
    have hw := wid_pos a
    have hwl := wid_le a h0
    refine (textOk_step (a ++ b) (by simp [h0])).2 ⟨bad_app a b h0 h1, by rw [decodeL_app a b h0 h1]; exact h2, ?_⟩
    rw [decodeL_app a b h0 h1, List.drop_append_of_le_length hwl]
    exact ih _ _ (by rw [List.length_drop]; omega) h3 hb
theorem textOk_append {a b : Bs} (ha : textOk a = true) (hb : textOk b = true) : textOk (a ++ b) = true := textOk_app a.length a b (Nat.le_refl _) ha hb
theorem textOk_cons {c : UInt8} {b : Bs} (hc : c.toNat < 128) (hp : charB c.toNat = true) (hb : textOk b = true) : textOk (c :: b) = true := by
 refine (textOk_step (c :: b) (by simp)).2 ⟨by unfold bad; rw [decode_ascii' c b hc]; simp only; omega, by rw [decode_ascii' c b hc]; exact hp, ?_⟩
 rw [wid_one c b hc]
 exact hb
def asciiOk (l : Bs) : Bool := l.all fun c => decide (c.toNat < 128) && charB c.toNat
theorem textOk_ascii : ∀ (l : Bs), asciiOk l = true → textOk l = true
 | [], _ => rfl
 | c :: t, h => by
   unfold asciiOk at h
   rw [List.all_cons, Bool.and_eq_true, Bool.and_eq_true, decide_eq_true_eq] at h
   exact textOk_cons h.1.1 h.1.2 (textOk_ascii t h.2)
theorem part_char (c : Int) (h : partB c = true) : charB c = true := by
 unfold partB startB at h
 unfold charB
 have hr : ∀ p : Int × Int, inR c p = true ↔ p.1 ≤ c ∧ c ≤ p.2 := fun p => by simp [inR]
 rw [Bool.or_eq_true] at h
 simp only [amongB, charL, List.any_cons, List.any_nil, Bool.or_eq_true, hr, Bool.false_eq_true, or_false]
 rcases h with h | h
 ·split at h
  ·simp only [asciiStartB, Bool.or_eq_true, Bool.and_eq_true, decide_eq_true_eq, beq_iff_eq] at h
   omega
  ·simp only [amongB, startL, List.any_cons, List.any_nil, Bool.or_eq_true, hr, Bool.false_eq_true, or_false] at h
   omega
 ·simp only [amongB, partL, List.any_cons, List.any_nil, Bool.or_eq_true, hr, Bool.false_eq_true, or_false] at h
  omega
theorem textOk_name : ∀ (f : Nat) (b : Bool) (n : Bs), n.length ≤ f → nameN f b n = n.length → textOk n = true := by
 intro f
 induction f with
 | zero =>
   intro b n hf _
   have : n = [] := List.eq_nil_of_length_eq_zero (by omega)
   subst this
   rfl
 | succ f ih =>
   intro b n hf hn
   by_cases h0 : n = []
   ·subst h0; rfl
   have hgo : goesB b n = true := by
    by_cases hgo : goesB b n = true
    ·exact hgo
    ·exfalso
     have e : nameN (f + 1) b n = 0 := by
      conv => lhs; unfold nameN
      rw [if_neg h0, if_neg hgo]
     have := List.length_pos_iff.2 h0
     omega
   have hb : ¬ bad n := by
    intro hb
    unfold goesB at hgo
    rw [firstL_bad hb] at hgo
    simp at hgo
   have hw := wid_pos n
   have hwl := wid_le n h0
   have e1 : nameN (f + 1) b n = (decodeL n).2 + nameN f false (n.drop (decodeL n).2) := by
    conv => lhs; unfold nameN
    rw [if_neg h0, if_pos hgo]
   have hlen : (n.drop (decodeL n).2).length = n.length - (decodeL n).2 := List.length_drop
   refine (textOk_step n h0).2 ⟨hb, ?_, ih false _ (by omega) (by omega)⟩
   unfold goesB at hgo
   rw [firstL_good h0 hb] at hgo
   simp only [Bool.and_eq_true] at hgo
   exact part_char _ hgo.1.2
theorem esc_cons (a : Bool) (c : UInt8) (l : Bs) : esc a (c :: l) = escB a c ++ esc a l := List.flatMap_cons
theorem esc_append (a : Bool) (l m : Bs) : esc a (l ++ m) = esc a l ++ esc a m := List.flatMap_append
theorem escB_cases (a : Bool) (c : UInt8) : escB a c = [c] ∧ c ≠ 38 ∧ c ≠ 60 ∧ c ≠ 62 ∧ c ≠ 13 ∧ (a = true → c ≠ 34 ∧ c ≠ 9 ∧ c ≠ 10) ∨ ∃ nm, escB a c = 38 :: (nm ++ [59]) ∧ (nm, [c]) ∈ refs ∧ asciiOk (escB a c) = true ∧ ∀ d ∈ escB a c, d ≠ 60 ∧ d ≠ 62 ∧ d ≠ 34 ∧ d ≠ 13 := by
 by_cases h1 : c = 38
 ·subst h1; exact .inr ⟨[97, 109, 112], by simp [escB], by decide, by simp [escB]; decide, by simp [escB]⟩
 by_cases h2 : c = 60
 ·subst h2; exact .inr ⟨[108, 116], by simp [escB], by decide, by simp [escB]; decide, by simp [escB]⟩
 by_cases h3 : c = 62
 ·subst h3; exact .inr ⟨[103, 116], by simp [escB], by decide, by simp [escB]; decide, by simp [escB]⟩
 by_cases h4 : c = 13
 ·subst h4; exact .inr ⟨[35, 120, 68], by simp [escB], by decide, by simp [escB]; decide, by simp [escB]⟩
 by_cases ha : a = true
 ·subst ha
  by_cases h5 : c = 34
  ·subst h5; exact .inr ⟨[113, 117, 111, 116], by simp [escB], by decide, by simp [escB]; decide, by simp [escB]⟩
  by_cases h6 : c = 9
  ·subst h6; exact .inr ⟨[35, 120, 57], by simp [escB], by decide, by simp [escB]; decide, by simp [escB]⟩
  by_cases h7 : c = 10
  ·subst h7; exact .inr ⟨[35, 120, 65], by simp [escB], by decide, by simp [escB]; decide, by simp [escB]⟩
  exact .inl ⟨by simp [escB, h1, h2, h3, h4, h5, h6, h7], h1, h2, h3, h4, fun _ => ⟨h5, h6, h7⟩⟩
 ·exact .inl ⟨by simp [escB, h1, h2, h3, h4, ha], h1, h2, h3, h4, fun h => absurd h ha⟩
theorem exp_esc (a : Bool) (pl : Bs → Bs) (hpl : ∀ u, (∀ c ∈ u, escB a c = [c]) → pl u = u) : ∀ (l u : Bs), (∀ c ∈ u, escB a c = [c] ∧ c ≠ 38) → Exp pl (u ++ esc a l) (u ++ l) := by
 intro l
 induction l with
 | nil =>
   intro u hu
   have := Exp.last (pl := pl) u (fun c hc => (hu c hc).2)
   rw [hpl u fun c hc => (hu c hc).1] at this
   simpa [esc] using this
 | cons c l ih =>
   intro u hu
   rw [esc_cons]
   rcases escB_cases a c with ⟨he, hne, _⟩ | ⟨nm, he, hr, _⟩
   ·rw [he]
    have := ih (u ++ [c]) (fun d hd => by
     rcases List.mem_append.1 hd with hd | hd
     ·exact hu d hd
     ·simp at hd; subst hd; exact ⟨he, hne⟩)
    simpa using this
   ·rw [he]
    have := Exp.more (pl := pl) u nm [c] (esc a l) l (fun c hc => (hu c hc).2) hr (by simpa using ih [] (by simp))
    rw [hpl u fun c hc => (hu c hc).1] at this
    simpa using this
theorem exp_value (l : Bs) : Exp blanks (esc true l) l := by
 refine exp_esc true blanks (fun u hu => ?_) l [] (by simp)
 unfold blanks
 conv => rhs; rw [← List.map_id u]
 refine List.map_congr_left fun c hc => ?_
 rcases escB_cases true c with ⟨_, _, _, _, h13, h⟩ | ⟨nm, he, _⟩
 ·unfold blankB
  rw [if_neg (by have := h rfl; simp [this.2.1, this.2.2, h13])]
  rfl
 ·rw [hu c hc] at he
  simp at he
theorem exp_text (l : Bs) : Exp id (esc false l) l := exp_esc false id (fun _ _ => rfl) l [] (by simp)
theorem esc_no (a : Bool) (l : Bs) : ∀ c ∈ esc a l, c ≠ 60 ∧ c ≠ 62 ∧ c ≠ 13 ∧ (a = true → c ≠ 34) := by
 intro c hc
 obtain ⟨d, hd, hcd⟩ := List.mem_flatMap.1 hc
 rcases escB_cases a d with ⟨he, h1, h2, h3, h4, h5⟩ | ⟨nm, he, _, _, h⟩
 ·rw [he] at hcd
  simp at hcd
  subst hcd
  exact ⟨h2, h3, h4, fun e => (h5 e).1⟩
 ·exact ⟨(h c hcd).1, (h c hcd).2.1, (h c hcd).2.2.2, fun _ => (h c hcd).2.2.1⟩
theorem textOk_esc (a : Bool) : ∀ (f : Nat) (l : Bs), l.length ≤ f → textOk l = true → textOk (esc a l) = true := by
 intro f
 induction f with
 | zero =>
   intro l hf _
   have : l = [] := List.eq_nil_of_length_eq_zero (by omega)
   subst this
   rfl
 | succ f ih =>
   intro l hf hl
   by_cases h0 : l = []
   ·subst h0; rfl
   ·obtain ⟨h1, h2, h3⟩ := (textOk_step l h0).1 hl
    have hw := wid_pos l
    have hwl := wid_le l h0
    rw [← List.take_append_drop (decodeL l).2 l, esc_append]
    refine textOk_append ?_ (ih _ (by rw [List.length_drop]; omega) h3)
    by_cases hlt : nb l 0 < 128
    ·cases l with
     | nil => exact absurd rfl h0
     | cons d t =>
       have hd : d.toNat < 128 := hlt
       rw [wid_one d t hd]
       show textOk (esc a [d]) = true
       rw [show esc a [d] = escB a d by simp [esc]]
       rw [decode_ascii' d t hd] at h2
       rcases escB_cases a d with ⟨he, _⟩ | ⟨nm, _, _, h, _⟩
       ·rw [he]; exact textOk_cons hd h2 rfl
       ·exact textOk_ascii _ h
    ·have hh := high_bytes l h0 h1 (by omega)
     have e : esc a (l.take (decodeL l).2) = l.take (decodeL l).2 := by
      have : ∀ (u : Bs), (∀ c ∈ u, 128 ≤ c.toNat) → esc a u = u := by
       intro u
       induction u with
       | nil => intro _; rfl
       | cons c u ih =>
         intro hu
         rw [esc_cons, ih fun d hd => hu d (List.mem_cons_of_mem _ hd)]
         rcases escB_cases a c with ⟨he, _⟩ | ⟨nm, _, hr, _⟩
         ·rw [he]; rfl
         ·exfalso
          have hc := hu c List.mem_cons_self
          revert hr
          simp only [refs, List.mem_cons, Prod.mk.injEq, List.not_mem_nil, or_false]
          intro hr
          rcases hr with h | h | h | h | h | h | h <;> (have := h.2; simp at this; subst this; revert hc; decide)
      exact this _ hh
     rw [e]
     refine (textOk_step _ (by
      rw [Ne, List.take_eq_nil_iff]
      rintro (h | h)
      ·omega
      ·exact h0 h)).2 ?_
     have hd := decodeL_take l (decodeL l).2 (Nat.le_refl _) h1 h0
     refine ⟨by unfold bad; rw [hd]; exact h1, by rw [hd]; exact h2, ?_⟩
     rw [hd, List.drop_take]
     simp
     rfl
end Go.Proofs.YtadgeghipimfiaaGreatDoor.Z
end
section
namespace Go.Proofs.YtadgeghipimfiaaGreatDoor.Z
open Go.Proofs.YtadgeghipimfiaaGreatDoor.U Go.Proofs.YtadgeghipimfiaaGreatDoor.X Go.Lib
set_option linter.unusedVariables false
set_option linter.unusedSimpArgs false
theorem index_no {s sub : Bs} (h : Lib.index s sub = -1) (j : Nat) (hj : j ≤ s.length) : occAt s sub j = false := by
 rcases index_spec s sub with ⟨_, h2⟩ | ⟨i, h1, _⟩
 ·exact h2 j hj
 ·rw [h1] at h; omega
theorem occ_two (s : Bs) (a b : UInt8) (j : Nat) : occAt s [a, b] j = (s[j]? == some a && s[j+1]? == some b) := by
 unfold occAt
 have e0 : s[j]? = (s.drop j)[0]? := by rw [List.getElem?_drop]; rfl
 have e1 : s[j+1]? = (s.drop j)[1]? := by rw [List.getElem?_drop]
 rw [e0, e1]
 cases s.drop j with
 | nil => rfl
 | cons c t =>
   cases t with
   | nil => simp [List.isPrefixOf]
   | cons d t =>
     simp only [List.isPrefixOf, List.getElem?_cons_zero, List.getElem?_cons_succ, Bool.and_true]
     rw [show ((some c : Option UInt8) == some a) = (a == c) from Bool.beq_comm, show ((some d : Option UInt8) == some b) = (b == d) from Bool.beq_comm]
theorem cut_two (x r : Bs) (a b : UInt8) (h : Lib.index (x ++ [a]) [a, b] = -1) : Lib.cut (x ++ a :: b :: r) [a, b] = (x, r, true) := by
 have hi : Lib.index (x ++ a :: b :: r) [a, b] = (x.length : Int) := by
  refine index_first (by simp) ?_ ?_
  ·rw [occ_two]
   rw [List.getElem?_append_right (Nat.le_refl _), List.getElem?_append_right (by omega)]
   simp
  ·intro j hj
   have := index_no h j (by simp; omega)
   rw [occ_two] at this ⊢
   rw [List.getElem?_append_left hj] at this ⊢
   by_cases h1 : j + 1 < x.length
   ·rw [List.getElem?_append_left h1] at this ⊢
    exact this
   ·have e : j + 1 = x.length := by omega
    rw [e, List.getElem?_append_right (Nat.le_refl _)] at this ⊢
    simpa using this
 unfold Lib.cut
 rw [hi, if_pos (by omega), Int.toNat_natCast, List.take_left' rfl]
 rw [show x.length + [a, b].length = x.length + 2 from rfl, ← List.drop_drop, List.drop_left' rfl]
 rfl
theorem index_last {x : Bs} {a b : UInt8} (hab : a ≠ b) (h : Lib.index x [a, b] = -1) : Lib.index (x ++ [a]) [a, b] = -1 := by
 refine index_none fun j hj => ?_
 rw [occ_two]
 by_cases h1 : j + 1 < x.length
 ·have := index_no h j (by omega)
  rw [occ_two] at this
  rw [List.getElem?_append_left (by omega), List.getElem?_append_left h1]
  exact this
 ·have hn : ¬ (x ++ [a])[j+1]? = some b := by
   by_cases h2 : j + 1 = x.length
   ·rw [h2, List.getElem?_append_right (Nat.le_refl _)]
    simpa using hab
   ·rw [List.getElem?_eq_none (by simp; omega)]
    simp
  simp [hn]
theorem index_tail {x : Bs} {c a b : UInt8} (hc : c ≠ a) (h : Lib.index x [a, b] = -1) : Lib.index (c :: x) [a, b] = -1 := by
 refine index_none fun j hj => ?_
 rw [occ_two]
 cases j with
 | zero => simp [hc]
 | succ j =>
   have := index_no h j (by simpa using hj)
   rw [occ_two] at this
   simpa using this
theorem no_closing {u : Bs} (h : ∀ c ∈ u, c ≠ 62) : Lib.index u [93, 93, 62] = -1 := by
 refine index_none fun j hj => ?_
 unfold occAt
 cases hx : List.isPrefixOf [93, 93, 62] (u.drop j) with
 | false => rfl
 | true =>
   exfalso
   obtain ⟨t, ht⟩ := List.isPrefixOf_iff_prefix.1 hx
   exact h 62 (List.mem_of_mem_drop (i := j) (by rw [← ht]; simp)) rfl
theorem nameN_ascii : ∀ (f : Nat) (b : Bool) (l : Bs), l.length ≤ f → (∀ c ∈ l, c.toNat < 128 ∧ partB c.toNat = true) → (b = true → ∀ c t, l = c :: t → startB c.toNat = true) → nameN f b l = l.length := by
 intro f
 induction f with
 | zero =>
   intro b l hf _ _
   have : l = [] := List.eq_nil_of_length_eq_zero (by omega)
   subst this
   rfl
 | succ f ih =>
   intro b l hf h hs
   cases l with
   | nil => rfl
   | cons c t =>
     have hc := h c List.mem_cons_self
     have hgo : goesB b (c :: t) = true := by
      unfold goesB
      rw [firstL_ascii c t hc.1]
      cases b with
      | false => simp [hc.2]
      | true => simp [hc.2, hs rfl c t rfl]
     unfold nameN
     rw [if_neg (by simp), if_pos hgo, wid_one c t hc.1, show (c :: t).drop 1 = t from rfl, ih false t (by simpa using hf) (fun d hd => h d (List.mem_cons_of_mem _ hd)) (fun e => by cases e)]
     simp; omega
theorem dec_bytes : ∀ (u : Nat), ∀ c ∈ decDigits u, 48 ≤ c.toNat ∧ c.toNat ≤ 57 := by
 intro u
 induction u using Nat.strongRecOn with
 | ind u ih =>
   intro c hc
   rw [decDigits] at hc
   split at hc
   ·rename_i h
    simp at hc
    subst hc
    simp [UInt8.toNat_ofNat']
    omega
   ·rename_i h
    rcases List.mem_append.1 hc with hc | hc
    ·exact ih (u / 10) (by omega) c hc
    ·simp at hc
     subst hc
     simp [UInt8.toNat_ofNat']
     omega
theorem dec_ne (u : Nat) : decDigits u ≠ [] := by
 rw [decDigits]
 split <;> simp
theorem digit_inj {a b : Nat} (ha : a < 10) (hb : b < 10) (h : UInt8.ofNat (48 + a) = UInt8.ofNat (48 + b)) : a = b := by
 have := congrArg UInt8.toNat h
 simp [UInt8.toNat_ofNat'] at this
 omega
theorem dec_inj : ∀ (u v : Nat), decDigits u = decDigits v → u = v := by
 intro u
 induction u using Nat.strongRecOn with
 | ind u ih =>
   intro v h
   rw [decDigits, decDigits.eq_def v] at h
   split at h
   ·rename_i h1
    split at h
    ·rename_i h2
     simp only [List.cons.injEq, and_true] at h
     exact digit_inj h1 h2 h
    ·exfalso
     have := congrArg List.length h
     have hp := List.length_pos_iff.2 (dec_ne (v / 10))
     simp at this
     exact absurd this (dec_ne (v / 10))
   ·rename_i h1
    split at h
    ·exfalso
     have := congrArg List.length h
     simp at this
     exact absurd this (dec_ne (u / 10))
    ·rename_i h2
     have hh := List.append_inj' h (by simp)
     have e1 := ih (u / 10) (by omega) (v / 10) hh.1
     have e2 := hh.2
     simp only [List.cons.injEq, and_true] at e2
     have := digit_inj (Nat.mod_lt _ (by decide)) (Nat.mod_lt _ (by decide)) e2
     omega
theorem itoa_nat (u : Nat) : Lib.itoa (u : Int) = decDigits u := by unfold itoa; rw [if_neg (by omega)]; simp
theorem pre_inj {i j : Nat} (h : pre i = pre j) : i = j := by
 unfold pre at h
 rw [itoa_nat, itoa_nat] at h
 injection h with _ h
 exact dec_inj _ _ h
theorem part_digit : ∀ n : Nat, 48 ≤ n → n ≤ 57 → partB (n : Int) = true := by
 intro n h1 h2
 have : n = 48 ∨ n = 49 ∨ n = 50 ∨ n = 51 ∨ n = 52 ∨ n = 53 ∨ n = 54 ∨ n = 55 ∨ n = 56 ∨ n = 57 := by omega
 rcases this with rfl | rfl | rfl | rfl | rfl | rfl | rfl | rfl | rfl | rfl <;> decide
set_option maxRecDepth 10000 in
theorem pre_plain (i : Nat) : plainB (pre i) = true := by
 have hb : ∀ c ∈ pre i, c.toNat < 128 ∧ partB c.toNat = true ∧ c ≠ 58 := by
  intro c hc
  unfold pre at hc
  rw [itoa_nat] at hc
  rcases List.mem_cons.1 hc with rfl | hc
  ·exact ⟨by decide, by decide, by decide⟩
  ·have := dec_bytes i c hc
   refine ⟨by omega, part_digit _ this.1 this.2, ?_⟩
   rintro rfl
   revert this
   decide
 have hl : nameL (pre i) = (pre i).length := nameN_ascii _ _ _ (Nat.le_refl _) (fun c hc => ⟨(hb c hc).1, (hb c hc).2.1⟩) (fun _ c t e => by
  unfold pre at e
  injection e with e _
  rw [← e]
  exact (by decide : startB ((110 : UInt8).toNat : Int) = true))
 unfold plainB
 rw [hl]
 simp only [Bool.and_eq_true, decide_eq_true_eq]
 refine ⟨⟨by simp [pre], trivial⟩, ?_⟩
 unfold noC
 rw [List.all_eq_true]
 intro c hc
 simpa using (hb c hc).2.2
theorem ascii_plain {l : Bs} (h0 : l ≠ []) (h : (l.all fun c => decide (c.toNat < 128) && partB c.toNat && c != 58) = true) (hs : ∀ c t, l = c :: t → startB c.toNat = true) : plainB l = true := by
 rw [List.all_eq_true] at h
 have hb : ∀ c ∈ l, c.toNat < 128 ∧ partB c.toNat = true ∧ c ≠ 58 := fun c hc => by
  have := h c hc
  simp only [Bool.and_eq_true, decide_eq_true_eq, bne_iff_ne, ne_eq] at this
  exact ⟨this.1.1, this.1.2, this.2⟩
 have hl : nameL l = l.length := nameN_ascii _ _ _ (Nat.le_refl _) (fun c hc => ⟨(hb c hc).1, (hb c hc).2.1⟩) (fun _ => hs)
 unfold plainB
 rw [hl]
 simp only [Bool.and_eq_true, decide_eq_true_eq]
 refine ⟨⟨by simpa using h0, trivial⟩, ?_⟩
 unfold noC
 rw [List.all_eq_true]
 intro c hc
 simpa using (hb c hc).2.2
set_option maxRecDepth 10000 in
theorem xml_plain : plainB tXml = true := ascii_plain (by decide) (by decide) (fun c t e => by unfold tXml at e; injection e with e _; rw [← e]; exact (by decide : startB ((120 : UInt8).toNat : Int) = true))
set_option maxRecDepth 10000 in
theorem xmlns_plain : plainB tXmlns = true := ascii_plain (by decide) (by decide) (fun c t e => by unfold tXmlns at e; injection e with e _; rw [← e]; exact (by decide : startB ((120 : UInt8).toNat : Int) = true))
theorem colon_inj {a b c d : Bs} (ha : ∀ x ∈ a, x ≠ 58) (hc : ∀ x ∈ c, x ≠ 58) (h : a ++ 58 :: b = c ++ 58 :: d) : a = c ∧ b = d := by
 have h1 := V.pre_at a b ha
 have h2 := V.pre_at c d hc
 rw [h] at h1
 refine ⟨h1.1.symm.trans h2.1, ?_⟩
 have := h1.2.symm.trans h2.2
 injection this
theorem colon_not {a b : Bs} (hb : ∀ x ∈ b, x ≠ 58) (c : Bs) (h : b = a ++ 58 :: c) : False := hb 58 (by rw [h]; simp) rfl
inductive NameP (i : Nat) (had : List (Bs × Bs)) : Bs → Prop
 | own (n : Bs) : plainB n = true → ([], n) ∉ had → NameP i had n
 | xml (n : Bs) : plainB n = true → (V.tXML, n) ∉ had → NameP i had (tXml ++ 58 :: n)
 | bind (k : Nat) : i ≤ k → NameP i had (tXmlns ++ 58 :: pre k)
 | of (k : Nat) (n : Bs) : plainB n = true → i ≤ k → NameP i had (pre k ++ 58 :: n)
theorem NameP.mono {i j : Nat} {had had' : List (Bs × Bs)} {n : Bs} (h : NameP j had' n) (hi : i ≤ j) (hh : ∀ x ∈ had, x ∈ had') : NameP i had n := by
 cases h with
 | own n h1 h2 => exact .own n h1 fun h => h2 (hh _ h)
 | xml n h1 h2 => exact .xml n h1 fun h => h2 (hh _ h)
 | bind k h1 => exact .bind k (by omega)
 | of k n h1 h2 => exact .of k n h1 (by omega)
theorem NameP.good {i : Nat} {had : List (Bs × Bs)} {n : Bs} (h : NameP i had n) : n ≠ [] ∧ nameL n = n.length := by
 cases h with
 | own n h1 h2 => exact ⟨(plain_parts h1).1, (plain_parts h1).2.1⟩
 | xml n h1 h2 => exact ⟨by simp, name_colon (by decide) (plain_parts xml_plain).2.1 (plain_parts h1).2.1⟩
 | bind k h1 => exact ⟨by simp, name_colon (by decide) (plain_parts xmlns_plain).2.1 (plain_parts (pre_plain k)).2.1⟩
 | of k n h1 h2 => exact ⟨by simp, name_colon (plain_parts (pre_plain k)).1 (plain_parts (pre_plain k)).2.1 (plain_parts h1).2.1⟩
theorem pre_not_xml (k : Nat) : pre k ≠ tXml ∧ pre k ≠ tXmlns := ⟨fun h => absurd (List.cons.inj h).1 (by decide), fun h => absurd (List.cons.inj h).1 (by decide)⟩
theorem names_all : ∀ (l : List At) (had : List (Bs × Bs)) (i : Nat), attrsOkN had l = true → (∀ p ∈ pairsAll i l, NameP i had p.1) ∧ ((pairsAll i l).map (·.1)).Nodup
 | [], had, i, _ => ⟨(fun p hp => by cases hp), List.nodup_nil⟩
 | a :: l, had, i, h => by
   unfold attrsOkN at h
   simp only [Bool.and_eq_true, Bool.not_eq_true', bne_iff_ne, ne_eq] at h
   obtain ⟨⟨⟨⟨⟨h1, h2⟩, _⟩, _⟩, _⟩, h6⟩ := h
   have hin : (a.1, a.2.1) ∉ had := by
    intro hc
    rw [List.contains_iff_mem.2 hc] at h1
    cases h1
   have hpl := plain_parts h2
   obtain ⟨ih1, ih2⟩ := names_all l (had ++ [(a.1, a.2.1)]) (i + 1) h6
   have hmem : (a.1, a.2.1) ∈ had ++ [(a.1, a.2.1)] := by simp
   have hup : ∀ p ∈ pairsAll (i + 1) l, NameP i had p.1 := fun p hp => (ih1 p hp).mono (by omega) fun x hx => List.mem_append_left _ hx
   have hxm := plain_parts xml_plain
   have hxn := plain_parts xmlns_plain
   unfold pairsAll pairsOf
   by_cases e1 : a.1 = []
   ·rw [if_pos e1]
    rw [e1] at hin hmem
    refine ⟨fun p hp => ?_, ?_⟩
    ·rcases List.mem_cons.1 hp with rfl | hp
     ·exact .own _ h2 hin
     ·exact hup p hp
    ·show (a.2.1 :: (pairsAll (i + 1) l).map (·.1)).Nodup
     refine List.nodup_cons.2 ⟨fun hc => ?_, ih2⟩
     obtain ⟨p, hp, e⟩ := List.mem_map.1 hc
     have hN := ih1 p hp
     rw [e] at hN
     generalize hq : a.2.1 = q at *
     cases hN with
     | own n h1 h2 => exact h2 (by rw [e1]; simp)
     | xml n h1 h2 => exact colon_not hpl.2.2 _ rfl
     | bind k h1 => exact colon_not hpl.2.2 _ rfl
     | of k n h1 h2 => exact colon_not hpl.2.2 _ rfl
   ·rw [if_neg e1]
    by_cases e2 : a.1 = V.tXML
    ·rw [if_pos e2]
     rw [e2] at hin hmem
     refine ⟨fun p hp => ?_, ?_⟩
     ·rcases List.mem_cons.1 hp with rfl | hp
      ·exact .xml _ h2 hin
      ·exact hup p hp
     ·show ((tXml ++ 58 :: a.2.1) :: (pairsAll (i + 1) l).map (·.1)).Nodup
      refine List.nodup_cons.2 ⟨fun hc => ?_, ih2⟩
      obtain ⟨p, hp, e⟩ := List.mem_map.1 hc
      have hN := ih1 p hp
      rw [e] at hN
      generalize hq : tXml ++ 58 :: a.2.1 = q at *
      cases hN with
      | own n h1 h2 => exact colon_not (plain_parts h1).2.2 _ hq.symm
      | xml n h1 h2 =>
        have := (colon_inj hxm.2.2 hxm.2.2 hq).2
        exact h2 (by rw [← this, e2]; simp)
      | bind k h1 => exact absurd (colon_inj hxm.2.2 hxn.2.2 hq).1 (by decide)
      | of k n h1 h2 => exact (pre_not_xml k).1 (colon_inj hxm.2.2 (plain_parts (pre_plain k)).2.2 hq).1.symm
    ·rw [if_neg e2]
     refine ⟨fun p hp => ?_, ?_⟩
     ·rcases List.mem_cons.1 hp with rfl | hp
      ·exact .bind i (Nat.le_refl _)
      ·rcases List.mem_cons.1 hp with rfl | hp
       ·exact .of i _ h2 (Nat.le_refl _)
       ·exact hup p hp
     ·show ((tXmlns ++ 58 :: pre i) :: (pre i ++ 58 :: a.2.1) :: (pairsAll (i + 1) l).map (·.1)).Nodup
      have hpi := (plain_parts (pre_plain i)).2.2
      refine List.nodup_cons.2 ⟨fun hc => ?_, List.nodup_cons.2 ⟨fun hc => ?_, ih2⟩⟩
      ·rcases List.mem_cons.1 hc with hc | hc
       ·exact (pre_not_xml i).2 (colon_inj hxn.2.2 hpi hc).1.symm
       ·obtain ⟨p, hp, e⟩ := List.mem_map.1 hc
        have hN := ih1 p hp
        rw [e] at hN
        generalize hq : tXmlns ++ 58 :: pre i = q at *
        cases hN with
        | own n h1 h2 => exact colon_not (plain_parts h1).2.2 _ hq.symm
        | xml n h1 h2 => exact absurd (colon_inj hxn.2.2 hxm.2.2 hq).1 (by decide)
        | bind k h1 =>
          have := pre_inj (colon_inj hxn.2.2 hxn.2.2 hq).2
          omega
        | of k n h1 h2 => exact (pre_not_xml k).2 (colon_inj hxn.2.2 (plain_parts (pre_plain k)).2.2 hq).1.symm
      ·obtain ⟨p, hp, e⟩ := List.mem_map.1 hc
       have hN := ih1 p hp
       rw [e] at hN
       generalize hq : pre i ++ 58 :: a.2.1 = q at *
       cases hN with
       | own n h1 h2 => exact colon_not (plain_parts h1).2.2 _ hq.symm
       | xml n h1 h2 => exact (pre_not_xml i).1 (colon_inj hpi hxm.2.2 hq).1
       | bind k h1 => exact (pre_not_xml i).2 (colon_inj hpi hxn.2.2 hq).1
       | of k n h1 h2 =>
         have := pre_inj (colon_inj hpi (plain_parts (pre_plain k)).2.2 hq).1
         omega
theorem names_el {at_ : List At} (h : attrsOk at_ = true) (sp up : Bs) : (∀ p ∈ pairsEl sp up at_, p.1 ≠ [] ∧ nameL p.1 = p.1.length) ∧ ((pairsEl sp up at_).map (·.1)).Nodup := by
 unfold attrsOk at h
 simp only [Bool.and_eq_true] at h
 obtain ⟨h1, h2⟩ := names_all at_ _ 0 h.1
 have hg : ∀ p ∈ pairsAll 0 at_, p.1 ≠ [] ∧ nameL p.1 = p.1.length := fun p hp => (h1 p hp).good
 unfold pairsEl
 by_cases e : sp = up
 ·rw [if_pos e]
  exact ⟨hg, h2⟩
 ·rw [if_neg e]
  refine ⟨fun p hp => ?_, ?_⟩
  ·rcases List.mem_cons.1 hp with rfl | hp
   ·exact ⟨(plain_parts xmlns_plain).1, (plain_parts xmlns_plain).2.1⟩
   ·exact hg p hp
  ·show (tXmlns :: (pairsAll 0 at_).map (·.1)).Nodup
   refine List.nodup_cons.2 ⟨fun hc => ?_, h2⟩
   obtain ⟨p, hp, e⟩ := List.mem_map.1 hc
   have hN := h1 p hp
   rw [e] at hN
   have hxn := (plain_parts xmlns_plain).2.2
   generalize hq : tXmlns = q at *
   cases hN with
   | own n h1 h2 => exact h2 (by rw [← hq]; simp)
   | xml n h1 h2 => exact colon_not hxn _ rfl
   | bind k h1 => exact colon_not (a := tXmlns) hxn (pre k) rfl
   | of k n h1 h2 => exact colon_not hxn _ rfl
theorem esc_no_blank (l : Bs) : ∀ c ∈ esc true l, c ≠ 9 ∧ c ≠ 10 := by
 intro c hc
 unfold esc at hc
 obtain ⟨d, _, hc⟩ := List.mem_flatMap.1 hc
 unfold escB at hc
 have key : ∀ l : Bs, (l.all fun c => c != 9 && c != 10) = true → c ∈ l → c ≠ 9 ∧ c ≠ 10 := fun l h hc => by
  rw [List.all_eq_true] at h
  simpa using h c hc
 repeat' split at hc
 ·exact key _ (by decide) hc
 ·exact key _ (by decide) hc
 ·exact key _ (by decide) hc
 ·exact key _ (by decide) hc
 ·exact key _ (by decide) hc
 ·exact key _ (by decide) hc
 ·exact key _ (by decide) hc
 ·rename_i h9 h10
  simp at hc
  subst hc
  exact ⟨fun e => h9 ⟨rfl, e⟩, fun e => h10 ⟨rfl, e⟩⟩
theorem stops_byte {c : UInt8} {t : Bs} (h : c.toNat < 128 ∧ partB c.toNat = false) : stops (c :: t) := .inr ⟨c, t, rfl, h.1, h.2⟩
theorem ats_pairs (al : Bool) (r : Bs) : ∀ (l : List (Bs × Bs)) (was : List Bs), (∀ p ∈ l, p.1 ≠ [] ∧ nameL p.1 = p.1.length) → (was ++ l.map (·.1)).Nodup → Ats was (tellPairs l ++ ((if al then [47, 62] else [62]) ++ r)) l al r
 | [], was, _, _ => by
   cases al with
   | false => exact .done was r
   | true => exact .alone was r
 | p :: l, was, hg, hn => by
   have hp := hg p List.mem_cons_self
   have ih := ats_pairs al r l (was ++ [p.1]) (fun q hq => hg q (List.mem_cons_of_mem _ hq)) (by simpa using hn)
   generalize hrest : tellPairs l ++ ((if al then [47, 62] else [62]) ++ r) = rest at ih
   have e : tellPairs (p :: l) ++ ((if al then [47, 62] else [62]) ++ r) = 32 :: (p.1 ++ 61 :: 34 :: (esc true p.2 ++ 34 :: rest)) := by
    rw [← hrest]
    unfold tellPairs valueL
    simp [List.flatMap_cons]
   rw [e]
   refine .more was p.1 (esc true p.2) p.2 rest 34 l al r (.inl rfl) (nm_of hp.1 hp.2 (stops_byte (by decide))) ?_ (exp_value p.2) ?_ ih
   ·intro c hc
    have h1 := esc_no true p.2 c hc
    have h2 := esc_no_blank p.2 c hc
    exact ⟨h1.2.2.2 rfl, h1.1, h2.1, h2.2, h1.2.2.1⟩
   ·intro hc
    have := List.nodup_append.1 hn
    exact this.2.2 p.1 hc p.1 (by simp) rfl
theorem mayB_el {k : Int} {sp nm : Bs} {at_ : List At} {kids : List Tr} {d : Bs} {depth : Nat} (hk : k = 0) (h : mayB (.mk k sp nm at_ kids d) depth = true) :
  depth ≤ 30 ∧ d = [] ∧ plainB nm = true ∧ textOk sp = true ∧ sp ≠ V.tNS ∧ sp ≠ V.tXML ∧ attrsOk at_ = true ∧ mayBs kids 0 (depth + 1) = true := by
 unfold mayB at h
 rw [if_pos hk] at h
 simp only [Bool.and_eq_true, decide_eq_true_eq, bne_iff_ne, ne_eq, List.isEmpty_iff] at h
 obtain ⟨⟨⟨⟨⟨⟨⟨h1, h2⟩, h3⟩, h4⟩, h5⟩, h6⟩, h7⟩, h8⟩ := h
 exact ⟨h1, h2, h3, h4, h5, h6, h7, h8⟩
theorem mayB_leaf {t : Tr} {depth : Nat} (hk : t.kind ≠ 0) (h : mayB t depth = true) :
  t.sp = [] ∧ t.attrs = [] ∧ t.kids = [] ∧ textOk t.data = true ∧ (t.kind = 1 ∧ t.nm = [] ∧ t.data ≠ [] ∨ t.kind = 2 ∧ t.nm = [] ∧ Lib.index (t.data ++ [45]) [45, 45] = -1 ∧ (∀ c ∈ t.data, c ≠ 13) ∨
   t.kind = 3 ∧ plainB t.nm = true ∧ Lib.toLowerD t.nm ≠ tXml ∧ (∀ c ∈ t.data, c ≠ 13) ∧ Lib.index t.data [63, 62] = -1 ∧ Lib.trimLeftS t.data [32, 9, 10, 13] = t.data) := by
 obtain ⟨k, sp, nm, at_, kids, d⟩ := t
 have hk : k ≠ 0 := hk
 unfold mayB at h
 rw [if_neg hk] at h
 unfold leafOk at h
 simp only [Bool.and_eq_true, List.isEmpty_iff] at h
 obtain ⟨⟨⟨⟨h1, h2⟩, h3⟩, h4⟩, h5⟩ := h
 have h5 : (if k = 1 then nm.isEmpty && !d.isEmpty else if k = 2 then nm.isEmpty && !d.contains 13 && (Lib.index (d ++ [45]) [45, 45] == -1) else if k = 3 then plainB nm && (Lib.toLowerD nm != tXml) && !d.contains 13 && (Lib.index d [63, 62] == -1) && (Lib.trimLeftS d [32, 9, 10, 13] == d) else false) = true := h5
 have hno : (!d.contains 13) = true → ∀ c ∈ d, c ≠ 13 := by
  intro h c hc e
  subst e
  rw [List.contains_iff_mem.2 hc] at h
  cases h
 refine ⟨h1, h2, h3, h4, ?_⟩
 show (k = 1 ∧ nm = [] ∧ d ≠ [] ∨ k = 2 ∧ nm = [] ∧ Lib.index (d ++ [45]) [45, 45] = -1 ∧ (∀ c ∈ d, c ≠ 13) ∨ k = 3 ∧ plainB nm = true ∧ Lib.toLowerD nm ≠ tXml ∧ (∀ c ∈ d, c ≠ 13) ∧ Lib.index d [63, 62] = -1 ∧ Lib.trimLeftS d [32, 9, 10, 13] = d)
 split at h5
 ·rename_i hk1
  simp only [Bool.and_eq_true, List.isEmpty_iff, Bool.not_eq_true', List.isEmpty_eq_false_iff] at h5
  exact .inl ⟨hk1, h5.1, h5.2⟩
 ·split at h5
  ·rename_i hk2
   simp only [Bool.and_eq_true, List.isEmpty_iff, beq_iff_eq] at h5
   exact .inr (.inl ⟨hk2, h5.1.1, h5.2, hno h5.1.2⟩)
  ·split at h5
   ·rename_i hk3
    simp only [Bool.and_eq_true, beq_iff_eq, bne_iff_ne, ne_eq] at h5
    exact .inr (.inr ⟨hk3, h5.1.1.1.1, h5.1.1.1.2, hno h5.1.1.2, h5.1.2, h5.2⟩)
   ·cases h5
theorem nx_leaf {t : Tr} {depth : Nat} (up : Bs) (hk : t.kind ≠ 0) (h : mayB t depth = true) (r : Bs) (hr : t.kind = 1 → r = [] ∨ ∃ x, r = 60 :: x) : ∃ tok, toks t up = [tok] ∧ Nx false (spell t up ++ r) tok r := by
 have hl := mayB_leaf hk h
 obtain ⟨k, sp, nm, at_, kids, d⟩ := t
 have hl : sp = [] ∧ at_ = [] ∧ kids = [] ∧ textOk d = true ∧ (k = 1 ∧ nm = [] ∧ d ≠ [] ∨ k = 2 ∧ nm = [] ∧ Lib.index (d ++ [45]) [45, 45] = -1 ∧ (∀ c ∈ d, c ≠ 13) ∨ k = 3 ∧ plainB nm = true ∧ Lib.toLowerD nm ≠ tXml ∧ (∀ c ∈ d, c ≠ 13) ∧ Lib.index d [63, 62] = -1 ∧ Lib.trimLeftS d [32, 9, 10, 13] = d) := hl
 obtain ⟨_, _, _, _, hl⟩ := hl
 have hr : k = 1 → r = [] ∨ ∃ x, r = 60 :: x := hr
 rcases hl with ⟨rfl, _, hd⟩ | ⟨rfl, _, hi, _⟩ | ⟨rfl, hn, hx, _, hi, ht⟩
 ·refine ⟨_, rfl, ?_⟩
  have hne : esc false d ≠ [] := by
   cases d with
   | nil => exact absurd rfl hd
   | cons c l =>
     rw [esc_cons]
     rcases escB_cases false c with ⟨e, _⟩ | ⟨nm, e, _⟩ <;> rw [e] <;> simp
  exact .chars false (esc false d) d r hne (fun c hc => (esc_no false d c hc).1) (hr rfl) (no_closing fun c hc => (esc_no false d c hc).2.1) (exp_text d)
 ·refine ⟨_, rfl, ?_⟩
  have e : spell (.mk 2 sp nm at_ kids d) up ++ r = 60 :: 33 :: 45 :: 45 :: (d ++ 45 :: 45 :: 62 :: r) := by
   unfold spell
   simp
  rw [e]
  exact .note false d r (cut_two d (62 :: r) 45 45 hi)
 ·refine ⟨_, rfl, ?_⟩
  obtain ⟨x, hxd⟩ : ∃ x, x = if d = [] then ([] : Bs) else 32 :: d := ⟨_, rfl⟩
  have e : spell (.mk 3 sp nm at_ kids d) up ++ r = 60 :: 63 :: (nm ++ (x ++ 63 :: 62 :: r)) := by
   unfold spell
   rw [hxd]
   simp
  have hxi : Lib.index x [63, 62] = -1 := by
   rw [hxd]
   split
   ·rfl
   ·exact index_tail (by decide) hi
  have htx : Lib.trimLeftS x [32, 9, 10, 13] = d := by
   rw [hxd]
   split
   ·rename_i h0; rw [h0]; rfl
   ·exact ht
  have hs : stops (x ++ 63 :: 62 :: r) := by
   rw [hxd]
   split
   ·exact stops_byte (by decide)
   ·exact stops_byte (by decide)
  have := Nx.pi nm x r (nm_of (plain_parts hn).1 (plain_parts hn).2.1 hs) (cut_two x r 63 62 (index_last (by decide) hxi)) hx (by
   rw [htx, hxd]
   split
   ·exact .inl rfl
   ·exact .inr (by simp))
  rw [htx] at this
  rw [e]
  exact this
theorem spell_head {t : Tr} {depth : Nat} (up : Bs) (h : mayB t depth = true) (hk : t.kind ≠ 1) : ∃ x, spell t up = 60 :: x := by
 obtain ⟨k, sp, nm, at_, kids, d⟩ := t
 have hk : k ≠ 1 := hk
 unfold spell
 rw [if_neg hk]
 split
 ·exact ⟨_, rfl⟩
 ·split
  ·exact ⟨_, rfl⟩
  ·exact ⟨_, rfl⟩
mutual
theorem nxs_spell : ∀ (t : Tr) (up : Bs) (depth : Nat), mayB t depth = true → ∀ (b : Bool) (r : Bs) (ts : List Tok), (t.kind = 1 → r = [] ∨ ∃ x, r = 60 :: x) → (b = true → t.kind = 0) → Nxs false r ts → Nxs b (spell t up ++ r) (toks t up ++ ts)
 | .mk k sp nm at_ kids d, up, depth, h, b, r, ts, hr, hb, hn => by
   by_cases hk : k = 0
   ·subst hk
    obtain ⟨_, rfl, hp, _, _, _, ha, hks⟩ := mayB_el rfl h
    have hpp := plain_parts hp
    obtain ⟨hg, hnd⟩ := names_el ha sp up
    unfold spell toks
    simp only [if_neg (by decide : ¬ (0 : Int) = 1), if_neg (by decide : ¬ (0 : Int) = 2), if_neg (by decide : ¬ (0 : Int) = 3)]
    have hst : ∀ x : Bs, ∀ al : Bool, stops (tellPairs (pairsEl sp up at_) ++ ((if al then [47, 62] else [62]) ++ x)) := by
     intro x al
     cases hps : pairsEl sp up at_ with
     | nil => cases al <;> exact stops_byte (by decide)
     | cons p l =>
       unfold tellPairs valueL
       rw [List.flatMap_cons]
       exact stops_byte (by decide)
    cases hkd : kids with
    | nil =>
      have e : (60 :: (nm ++ (tellPairs (pairsEl sp up at_) ++ (if ([] : List Tr).isEmpty then [47, 62] else 62 :: (spells [] sp ++ (60 :: 47 :: (nm ++ [62]))))))) ++ r = 60 :: (nm ++ (tellPairs (pairsEl sp up at_) ++ ((if true then [47, 62] else [62]) ++ r))) := by simp
      rw [e]
      exact .cons b _ r _ ts (.opens b nm _ _ true r (nm_of hpp.1 hpp.2.1 (hst r true)) (ats_pairs true r _ [] hg (by simpa using hnd))) hn
    | cons t1 ts1 =>
      have e : (60 :: (nm ++ (tellPairs (pairsEl sp up at_) ++ (if (t1 :: ts1).isEmpty then [47, 62] else 62 :: (spells (t1 :: ts1) sp ++ (60 :: 47 :: (nm ++ [62]))))))) ++ r = 60 :: (nm ++ (tellPairs (pairsEl sp up at_) ++ ((if false then [47, 62] else [62]) ++ (spells (t1 :: ts1) sp ++ (60 :: 47 :: (nm ++ 62 :: r)))))) := by simp
      have e2 : (if (t1 :: ts1).isEmpty then [⟨0, nm, pairsEl sp up at_, true, []⟩] else ⟨0, nm, pairsEl sp up at_, false, []⟩ :: (tokss (t1 :: ts1) sp ++ [⟨1, nm, [], false, []⟩])) ++ ts = (⟨0, nm, pairsEl sp up at_, false, []⟩ : Tok) :: (tokss (t1 :: ts1) sp ++ ((⟨1, nm, [], false, []⟩ : Tok) :: ts)) := by simp
      rw [e, e2]
      refine .cons b _ _ _ _ (.opens b nm _ _ false _ (nm_of hpp.1 hpp.2.1 (hst _ false)) (ats_pairs false _ _ [] hg (by simpa using hnd))) ?_
      rw [← hkd]
      refine nxs_spells kids sp 0 (depth + 1) hks _ _ ⟨_, rfl⟩ ?_
      exact .cons false _ r _ ts (.shut false nm r (nm_of hpp.1 hpp.2.1 (stops_byte (by decide)))) hn
   ·obtain ⟨tok, e, hx⟩ := nx_leaf up (t := .mk k sp nm at_ kids d) hk h r hr
    have hbf : b = false := by
     cases b with
     | false => rfl
     | true => exact absurd (hb rfl) hk
    subst hbf
    rw [e]
    exact .cons false _ r tok ts hx hn
theorem nxs_spells : ∀ (l : List Tr) (up : Bs) (last : Int) (depth : Nat), mayBs l last depth = true → ∀ (r : Bs) (ts : List Tok), (∃ x, r = 60 :: x) → Nxs false r ts → Nxs false (spells l up ++ r) (tokss l up ++ ts)
 | [], _, _, _, _, _, _, _, hn => hn
 | t :: l, up, last, depth, h, r, ts, hr, hn => by
   unfold mayBs at h
   simp only [Bool.and_eq_true] at h
   have ih := nxs_spells l up t.kind depth h.2 r ts hr hn
   unfold spells tokss
   rw [List.append_assoc, List.append_assoc]
   refine nxs_spell t up depth h.1.2 false _ _ (fun hk => ?_) (fun e => by cases e) ih
   right
   cases l with
   | nil => exact hr
   | cons t2 l2 =>
     have h2 := h.2
     unfold mayBs at h2
     simp only [Bool.and_eq_true] at h2
     have hk2 : t2.kind ≠ 1 := by
      intro e
      have := h2.1.1
      simp [hk, e] at this
     obtain ⟨x, hx⟩ := spell_head up h2.1.2 hk2
     unfold spells
     rw [hx]
     exact ⟨_, rfl⟩
end
theorem M_toList (l : Bs) : (X.M l).toList = l := B_toList l
theorem split_plain {n : Bs} (h : plainB n = true) : V.splitV n = ((⟨#[]⟩ : ByteArray), X.M n, 0) := by
 unfold V.splitV
 rw [if_pos ((V.postC_nil n).2 (plain_parts h).2.2), if_pos h]
 rfl
theorem split_colon {p n : Bs} (hp : plainB p = true) (hn : plainB n = true) : V.splitV (p ++ 58 :: n) = (X.M p, X.M n, 0) := by
 obtain ⟨h1, h2⟩ := V.pre_at p n (plain_parts hp).2.2
 unfold V.splitV
 rw [h1, h2, if_neg (by simp), if_pos hp, List.tail_cons, if_pos hn]
 rfl
def decls : Nat → List At → List (Bs × Bs)
 | _, [] => []
 | i, a :: l => (if a.1 = [] then [] else if a.1 = V.tXML then [] else [(pre i, a.1)]) ++ decls (i + 1) l
def rests : Nat → List At → List (Bs × Bs)
 | _, [] => []
 | i, a :: l => (nameOf i a, a.2.2) :: rests (i + 1) l
theorem nil_toList : (⟨#[]⟩ : ByteArray).toList = [] := M_toList []
theorem decl_default (sc re : List Pg.S144) (v : Bs) (t : List Pg.S144) (h1 : v ≠ V.tXML) (h2 : v ≠ V.tNS) : V.declV sc re (toS (tXmlns, v) :: t) = V.declV (sc ++ [toS ([], v)]) re t := by
 conv => lhs; unfold V.declV
 simp only [toS, M_toList, split_plain xmlns_plain, nil_toList]
 rw [if_pos trivial, if_pos ⟨trivial, rfl⟩, if_pos]
 unfold V.mayV
 rw [if_neg (by decide), if_neg (by decide), if_neg h1, if_neg h2, if_pos rfl]
theorem decl_pre (sc re : List Pg.S144) (i : Nat) (v : Bs) (t : List Pg.S144) (h0 : v ≠ []) (h1 : v ≠ V.tXML) (h2 : v ≠ V.tNS) : V.declV sc re (toS (tXmlns ++ 58 :: pre i, v) :: t) = V.declV (sc ++ [toS (pre i, v)]) re t := by
 conv => lhs; unfold V.declV
 simp only [toS, M_toList, split_colon xmlns_plain (pre_plain i)]
 rw [if_pos trivial, if_neg (fun h => absurd h.1 (by decide)), if_pos (show tXmlns = V.xmlns from rfl), if_pos]
 unfold V.mayV
 rw [if_neg (show ¬ pre i = V.xml from (pre_not_xml i).1), if_neg (show ¬ pre i = V.xmlns from (pre_not_xml i).2), if_neg h1, if_neg h2, if_neg (plain_parts (pre_plain i)).1]
 simpa using h0
theorem decl_own (sc re : List Pg.S144) (n v : Bs) (t : List Pg.S144) (hn : plainB n = true) (hx : n ≠ tXmlns) : V.declV sc re (toS (n, v) :: t) = V.declV sc (re ++ [toS (n, v)]) t := by
 conv => lhs; unfold V.declV
 simp only [toS, M_toList, split_plain hn, nil_toList]
 rw [if_pos trivial, if_neg (fun h => hx h.2), if_neg (by decide)]
theorem decl_colon (sc re : List Pg.S144) (p n v : Bs) (t : List Pg.S144) (hp : plainB p = true) (hn : plainB n = true) (hx : p ≠ tXmlns) : V.declV sc re (toS (p ++ 58 :: n, v) :: t) = V.declV sc (re ++ [toS (p ++ 58 :: n, v)]) t := by
 conv => lhs; unfold V.declV
 simp only [toS, M_toList, split_colon hp hn]
 rw [if_pos trivial, if_neg (fun h => (plain_parts hp).1 h.1), if_neg (show ¬ p = V.xmlns from hx)]
theorem decl_all : ∀ (l : List At) (i : Nat) (had : List (Bs × Bs)) (sc re : List (Bs × Bs)), attrsOkN had l = true → ([], tXmlns) ∈ had → V.declV (sc.map toS) (re.map toS) ((pairsAll i l).map toS) = ((sc ++ decls i l).map toS, (re ++ rests i l).map toS, 0)
 | [], i, had, sc, re, _, _ => by
   show V.declV _ _ [] = _
   unfold V.declV decls rests
   simp
 | a :: l, i, had, sc, re, h, hh => by
   unfold attrsOkN at h
   simp only [Bool.and_eq_true, Bool.not_eq_true', bne_iff_ne, ne_eq] at h
   obtain ⟨⟨⟨⟨⟨h1, h2⟩, _⟩, _⟩, h5⟩, h6⟩ := h
   have hin : (a.1, a.2.1) ∉ had := by
    intro hc
    rw [List.contains_iff_mem.2 hc] at h1
    cases h1
   have hh2 : ([], tXmlns) ∈ had ++ [(a.1, a.2.1)] := List.mem_append_left _ hh
   have ih := fun sc re => decl_all l (i + 1) (had ++ [(a.1, a.2.1)]) sc re h6 hh2
   unfold pairsAll pairsOf decls rests nameOf
   by_cases e1 : a.1 = []
   ·simp only [if_pos e1]
    rw [List.singleton_append, List.map_cons, decl_own _ _ _ _ _ h2 (fun e => hin (by rw [e1, e]; exact hh)), ← List.map_singleton, ← List.map_append, ih]
    simp
   ·by_cases e2 : a.1 = V.tXML
    ·simp only [if_neg e1, if_pos e2]
     rw [List.singleton_append, List.map_cons, decl_colon _ _ _ _ _ _ xml_plain h2 (by decide), ← List.map_singleton, ← List.map_append, ih]
     simp
    ·simp only [if_neg e1, if_neg e2]
     rw [List.cons_append, List.singleton_append, List.map_cons, List.map_cons, decl_pre _ _ _ _ _ e1 e2 h5, decl_colon _ _ _ _ _ _ (pre_plain i) h2 (pre_not_xml i).2]
     rw [← List.map_singleton (f := toS) (a := (pre i, a.1)), ← List.map_append, ← List.map_singleton (f := toS), ← List.map_append, ih]
     simp
theorem decl_el {at_ : List At} (h : attrsOk at_ = true) {sp : Bs} (up : Bs) (h1 : sp ≠ V.tXML) (h2 : sp ≠ V.tNS) : V.declV [] [] ((pairsEl sp up at_).map toS) = (((if sp = up then [] else [([], sp)]) ++ decls 0 at_).map toS, (rests 0 at_).map toS, 0) := by
 unfold attrsOk at h
 simp only [Bool.and_eq_true] at h
 have ha := fun sc => decl_all at_ 0 _ sc [] h.1 (by simp)
 unfold pairsEl
 by_cases e : sp = up
 ·simp only [if_pos e]
  simpa using ha []
 ·simp only [if_neg e]
  rw [List.singleton_append, List.map_cons, decl_default _ _ _ _ h1 h2]
  simpa using ha [([], sp)]
theorem space_none (a l : List (Bs × Bs)) (p : Bs) (h : ∀ x ∈ l, x.1 ≠ p) : V.spaceV ((a ++ l).map toS) p = V.spaceV (a.map toS) p := by
 unfold V.spaceV
 rw [List.map_append, List.reverse_append, List.find?_append]
 have : (l.map toS).reverse.find? (V.hitV p) = none := by
  rw [List.find?_eq_none]
  intro x hx
  rw [List.mem_reverse] at hx
  obtain ⟨y, hy, rfl⟩ := List.mem_map.1 hx
  unfold V.hitV
  rw [show (toS y).f0.toList = y.1 from M_toList _]
  simpa using h y hy
 rw [this, Option.none_or]
theorem space_hit (a : List (Bs × Bs)) (p v : Bs) : V.spaceV ((a ++ [(p, v)]).map toS) p = (X.M v, p.isEmpty || !v.isEmpty) := by
 unfold V.spaceV
 rw [List.map_append, List.reverse_append, List.map_singleton, List.reverse_singleton, List.singleton_append, List.find?_cons]
 have : V.hitV p (toS (p, v)) = true := by
  unfold V.hitV
  rw [show (toS (p, v)).f0.toList = p from M_toList _]
  simp
 rw [this]
 show ((toS (p, v)).f1, p.isEmpty || !(toS (p, v)).f1.toList.isEmpty) = _
 rw [show (toS (p, v)).f1.toList = v from M_toList _]
theorem decls_name : ∀ (l : List At) (i : Nat), ∀ x ∈ decls i l, ∃ k, i ≤ k ∧ x.1 = pre k
 | [], _, x, hx => by cases hx
 | a :: l, i, x, hx => by
   unfold decls at hx
   rcases List.mem_append.1 hx with hx | hx
   ·split at hx
    ·cases hx
    ·split at hx
     ·cases hx
     ·simp at hx
      exact ⟨i, Nat.le_refl _, by rw [hx]⟩
   ·obtain ⟨k, hk, e⟩ := decls_name l (i + 1) x hx
    exact ⟨k, by omega, e⟩
theorem res_all : ∀ (l : List At) (i : Nat) (had : List (Bs × Bs)) (sc : List (Bs × Bs)), attrsOkN had l = true → ∀ (pl : List (Bs × Bs)) (pa : List At), Res (sc ++ decls i l) pl pa → (∀ a ∈ pa, (a.1, a.2.1) ∈ had) → Res (sc ++ decls i l) (pl ++ rests i l) (pa ++ l)
 | [], i, had, sc, _, pl, pa, hr, _ => by unfold rests; simpa using hr
 | a :: l, i, had, sc, h, pl, pa, hr, hp => by
   unfold attrsOkN at h
   simp only [Bool.and_eq_true, Bool.not_eq_true', bne_iff_ne, ne_eq] at h
   obtain ⟨⟨⟨⟨⟨h1, h2⟩, _⟩, _⟩, h5⟩, h6⟩ := h
   have hin : (a.1, a.2.1) ∉ had := by
    intro hc
    rw [List.contains_iff_mem.2 hc] at h1
    cases h1
   obtain ⟨d, hd⟩ : ∃ d, d = if a.1 = [] then [] else if a.1 = V.tXML then [] else [(pre i, a.1)] := ⟨_, rfl⟩
   have e : sc ++ decls i (a :: l) = (sc ++ d) ++ decls (i + 1) l := by
    rw [hd]
    conv => lhs; unfold decls
    rw [List.append_assoc]
   have hres : V.resolveV ((sc ++ decls i (a :: l)).map toS) (nameOf i a) true = (X.M a.1, X.M a.2.1, 0) := by
    rw [e]
    unfold V.resolveV nameOf
    by_cases e1 : a.1 = []
    ·simp only [if_pos e1]
     simp only [split_plain h2, nil_toList]
     rw [if_pos trivial, if_neg (by decide), if_neg (by decide), if_pos ⟨trivial, trivial⟩, e1]
    ·by_cases e2 : a.1 = V.tXML
     ·simp only [if_neg e1, if_pos e2]
      simp only [split_colon xml_plain h2, M_toList]
      rw [if_pos trivial, if_pos (show tXml = V.xml from rfl), e2]
      rfl
     ·simp only [if_neg e1, if_neg e2]
      simp only [split_colon (pre_plain i) h2, M_toList]
      rw [if_pos trivial, if_neg (show ¬ pre i = V.xml from (pre_not_xml i).1), if_neg (show ¬ pre i = V.xmlns from (pre_not_xml i).2), if_neg (fun h => (plain_parts (pre_plain i)).1 h.1)]
      rw [space_none _ _ _ (fun x hx ex => by
       obtain ⟨k, hk, ek⟩ := decls_name l (i + 1) x hx
       rw [ek] at ex
       have := pre_inj ex
       omega)]
      rw [hd, if_neg e1, if_neg e2, space_hit]
      unfold V.endV
      rw [if_pos]
      simp [e1]
   have hs := Res.snoc pl pa (nameOf i a) a.2.2 a.1 a.2.1 hr hres (fun b hb hc => hin (by
    have := hp b hb
    rw [hc.1, hc.2] at this
    exact this))
   rw [e] at hs
   have ih := res_all l (i + 1) (had ++ [(a.1, a.2.1)]) (sc ++ d) h6 _ _ hs (fun b hb => by
    rcases List.mem_append.1 hb with hb | hb
    ·exact List.mem_append_left _ (hp b hb)
    ·simp at hb
     subst hb
     simp)
   rw [e]
   have e3 : pl ++ rests i (a :: l) = pl ++ [(nameOf i a, a.2.2)] ++ rests (i + 1) l := by
    conv => lhs; unfold rests
    simp
   rw [e3, show pa ++ a :: l = pa ++ [(a.1, a.2.1, a.2.2)] ++ l by simp]
   exact ih
theorem pairs_len : ∀ (l : List At) (i : Nat), (pairsAll i l).length ≤ 2 * l.length
 | [], _ => Nat.le_refl _
 | a :: l, i => by
   have := pairs_len l (i + 1)
   unfold pairsAll pairsOf
   rw [List.length_append, List.length_cons]
   split
   ·simp; omega
   ·split
    ·simp; omega
    ·simp; omega
abbrev home (l : List (Bs × Bs)) : ByteArray := (V.spaceV (l.map toS) []).1
theorem space_true (l : List Pg.S144) : (V.spaceV l []).2 = true := by
 unfold V.spaceV
 split <;> rfl
theorem begins_el {g : Gr} {k : Int} {sp nm up : Bs} {at_ : List At} {kids : List Tr} {d : Bs} {depth : Nat} (al : Bool) (h : mayB (.mk 0 sp nm at_ kids d) depth = true) (hd : g.stack.length + 1 = depth) (hup : home g.scope = X.M up) :
  ∃ sc, home sc = X.M sp ∧ Begins g ⟨0, nm, pairsEl sp up at_, al, []⟩ ⟨nm, sp, nm, at_, [], sc⟩ := by
 obtain ⟨h1, _, hp, _, hs1, hs2, ha, _⟩ := mayB_el rfl h
 have hN : attrsOkN [([], tXmlns)] at_ = true ∧ at_.length ≤ 24 := by
  have := ha
  unfold attrsOk at this
  simpa only [Bool.and_eq_true, decide_eq_true_eq] using this
 have hscp : ∃ sc0, sc0 = g.scope ++ (if sp = up then [] else [([], sp)]) := ⟨_, rfl⟩
 obtain ⟨sc0, hsc0⟩ := hscp
 have hhome : home (sc0 ++ decls 0 at_) = X.M sp := by
  unfold home
  rw [space_none _ _ _ (fun x hx e => by
   obtain ⟨k, _, ek⟩ := decls_name at_ 0 x hx
   rw [ek] at e
   exact (plain_parts (pre_plain k)).1 e)]
  rw [hsc0]
  by_cases e : sp = up
  ·rw [if_pos e, List.append_nil, e]; exact hup
  ·rw [if_neg e, space_hit]
 refine ⟨sc0 ++ decls 0 at_, hhome, ?_, ?_, rfl, rfl, ⟨(if sp = up then [] else [([], sp)]) ++ decls 0 at_, rests 0 at_, decl_el ha up hs2 hs1, ?_, ?_⟩, ?_⟩
 ·have hpl := pairs_len at_ 0
  show (pairsEl sp up at_).length ≤ 50
  unfold pairsEl
  rw [List.length_append]
  split
  ·simp; omega
  ·simp; omega
 ·omega
 ·show sc0 ++ decls 0 at_ = _
  rw [hsc0, List.append_assoc]
 ·exact res_all at_ 0 _ sc0 hN.1 [] [] (.nil) (fun a ha => by cases ha)
 ·show V.resolveV ((sc0 ++ decls 0 at_).map toS) nm false = _
  unfold V.resolveV
  simp only [split_plain hp, nil_toList]
  rw [if_pos trivial, if_neg (by decide), if_neg (by decide), if_neg (fun h => by cases h.2)]
  unfold V.endV
  rw [if_pos (space_true _)]
  show (home (sc0 ++ decls 0 at_), _, _) = _
  rw [hhome]
mutual
theorem gxs_toks : ∀ (t : Tr) (up : Bs) (depth : Nat), mayB t depth = true → ∀ (g k : Gr) (ts : List Tok), g.stack.length + 1 = depth → g.root = none → home g.scope = X.M up → g.fits t → (t.kind ≠ 0 → g.stack ≠ []) → Gxs (g.put t) ts k → Gxs g (toks t up ++ ts) k
 | .mk kd sp nm at_ kids d, up, depth, h, g, k, ts, hd, hroot, hup, hfit, hne, hx => by
   by_cases hk : kd = 0
   ·subst hk
    obtain ⟨_, rfl, _, _, _, _, _, hks⟩ := mayB_el rfl h
    unfold toks
    simp only [if_neg (by decide : ¬ (0 : Int) = 1), if_neg (by decide : ¬ (0 : Int) = 2), if_neg (by decide : ¬ (0 : Int) = 3)]
    cases hkd : kids with
    | nil =>
      subst hkd
      obtain ⟨sc, hsc, hb⟩ := begins_el (k := 0) true h hd hup
      have := Gx.alone g nm _ [] _ hroot hb
      exact .cons g _ k _ ts this hx
    | cons t1 ts1 =>
      obtain ⟨sc, hsc, hb⟩ := begins_el (k := 0) false h hd hup
      have h1 := Gx.start g nm _ [] _ hroot hb
      have e2 : (if (t1 :: ts1).isEmpty then [⟨0, nm, pairsEl sp up at_, true, []⟩] else ⟨0, nm, pairsEl sp up at_, false, []⟩ :: (tokss (t1 :: ts1) sp ++ [⟨1, nm, [], false, []⟩])) ++ ts = (⟨0, nm, pairsEl sp up at_, false, []⟩ : Tok) :: (tokss (t1 :: ts1) sp ++ ((⟨1, nm, [], false, []⟩ : Tok) :: ts)) := by simp
      rw [e2, ← hkd]
      refine .cons g _ k _ _ h1 ?_
      obtain ⟨gs, gr⟩ := g
      have hroot : gr = none := hroot
      subst hroot
      refine gxs_tokss kids sp 0 (depth + 1) hks ⟨nm, sp, nm, at_, [], sc⟩ gs k _ (by show gs.length + 2 = depth + 1; have : gs.length + 1 = depth := hd; omega) hsc (fun x hx => by cases hx) ?_
      have h2 := Gx.ends ⟨nm, sp, nm, at_, [] ++ kids, sc⟩ gs none [] false []
      refine .cons _ _ k _ ts h2 ?_
      exact hx
   ·have hl := mayB_leaf (t := .mk kd sp nm at_ kids d) hk h
    have hl : sp = [] ∧ at_ = [] ∧ kids = [] ∧ textOk d = true ∧ (kd = 1 ∧ nm = [] ∧ d ≠ [] ∨ kd = 2 ∧ nm = [] ∧ Lib.index (d ++ [45]) [45, 45] = -1 ∧ (∀ c ∈ d, c ≠ 13) ∨ kd = 3 ∧ plainB nm = true ∧ Lib.toLowerD nm ≠ tXml ∧ (∀ c ∈ d, c ≠ 13) ∧ Lib.index d [63, 62] = -1 ∧ Lib.trimLeftS d [32, 9, 10, 13] = d) := hl
    have hst := hne hk
    obtain ⟨rfl, rfl, rfl, _, hl⟩ := hl
    rcases hl with ⟨rfl, rfl, hd0⟩ | ⟨rfl, rfl, _, _⟩ | ⟨rfl, hn, _, _, _, _⟩
    ·exact .cons g _ k _ ts (.chars g [] [] _ d hst hd0 hfit) hx
    ·exact .cons g _ k _ ts (.note g [] [] _ d hst) hx
    ·exact .cons g _ k _ ts (.pi g nm [] _ d hst hn) hx
theorem gxs_tokss : ∀ (l : List Tr) (sp : Bs) (last : Int) (depth : Nat), mayBs l last depth = true → ∀ (f : Fr) (fs : List Fr) (k : Gr) (ts : List Tok), fs.length + 2 = depth → home f.scope = X.M sp → (∀ x, f.kids.getLast? = some x → x.kind = last) → Gxs ⟨{ f with kids := f.kids ++ l } :: fs, none⟩ ts k → Gxs ⟨f :: fs, none⟩ (tokss l sp ++ ts) k
 | [], _, _, _, _, f, fs, k, ts, _, _, _, hx => by
   unfold tokss
   rw [List.append_nil] at hx
   exact hx
 | t :: l, sp, last, depth, h, f, fs, k, ts, hd, hsc, hlast, hx => by
   unfold mayBs at h
   simp only [Bool.and_eq_true] at h
   unfold tokss
   rw [List.append_assoc]
   refine gxs_toks t sp depth h.1.2 ⟨f :: fs, none⟩ k _ (by show (f :: fs).length + 1 = depth; rw [List.length_cons]; omega) rfl hsc ?_ (fun _ => by simp) ?_
   ·show noJoin f.kids t
    intro hk x hx hxk
    have := h.1.1
    rw [← hlast x hx] at this
    simp [hk, hxk] at this
   ·refine gxs_tokss l sp t.kind depth h.2 { f with kids := f.kids ++ [t] } fs k ts hd hsc (fun x hx => ?_) ?_
    ·have hx : (f.kids ++ [t]).getLast? = some x := hx
     rw [List.getLast?_append] at hx
     simp at hx
     rw [hx]
    ·show Gxs ⟨{ f with kids := f.kids ++ [t] ++ l } :: fs, none⟩ ts k
     rw [List.append_assoc]
     exact hx
end
def gr0 : Gr := ⟨[], none⟩
theorem home_nil : home [] = X.M [] := rfl
theorem may_of {t : Tr} (h : mayDoc t = true) : t.kind = 0 ∧ mayB t 1 = true := by
 unfold mayDoc at h
 simpa only [Bool.and_eq_true, decide_eq_true_eq] using h
theorem nxs_doc {t : Tr} (h : mayDoc t = true) (b : Bool) (r : Bs) (ts : List Tok) (hn : Nxs false r ts) : Nxs b (spell t [] ++ r) (toks t [] ++ ts) := by
 obtain ⟨h1, h2⟩ := may_of h
 exact nxs_spell t [] 1 h2 b r ts (fun e => by rw [h1] at e; cases e) (fun _ => h1) hn
theorem gxs_doc {t : Tr} (h : mayDoc t = true) (k : Gr) (ts : List Tok) (hx : Gxs ⟨[], some t⟩ ts k) : Gxs gr0 (toks t [] ++ ts) k := by
 obtain ⟨h1, h2⟩ := may_of h
 exact gxs_toks t [] 1 h2 gr0 k ts rfl rfl home_nil trivial (fun e => absurd h1 e) hx
def aliveT : Tr := .mk 0 [] [97] [([], [98], [49])] [.mk 1 [] [] [] [] [120]] []
def aliveL : Bs := [60, 97, 32, 98, 61, 39, 49, 39, 62, 120, 60, 47, 97, 62]
theorem plain1 (c : UInt8) (h : c.toNat < 128) (h1 : partB c.toNat = true) (h2 : startB c.toNat = true) (h3 : c ≠ 58) : plainB [c] = true := by
 refine ascii_plain (by simp) ?_ (fun d t e => by rw [← (List.cons.inj e).1]; exact h2)
 simp [h, h1, h3]
set_option maxRecDepth 10000 in
theorem plain_a : plainB [97] = true := plain1 97 (by decide) (by decide) (by decide) (by decide)
set_option maxRecDepth 10000 in
theorem plain_b : plainB [98] = true := plain1 98 (by decide) (by decide) (by decide) (by decide)
set_option maxRecDepth 10000 in
theorem alive_nxs : Nxs true aliveL (toks aliveT []) := by
 have e : toks aliveT [] = [⟨0, [97], [([98], [49])], false, []⟩, ⟨2, [], [], false, [120]⟩, ⟨1, [97], [], false, []⟩] := rfl
 rw [e]
 have ha := plain_parts plain_a
 have hb := plain_parts plain_b
 refine .cons true aliveL [120, 60, 47, 97, 62] _ _ ?_ (.cons false _ [60, 47, 97, 62] _ _ ?_ (.cons false _ [] _ _ ?_ (.nil false)))
 ·refine .opens true [97] [32, 98, 61, 39, 49, 39, 62, 120, 60, 47, 97, 62] [([98], [49])] false [120, 60, 47, 97, 62] (nm_of ha.1 ha.2.1 (stops_byte (by decide))) ?_
  refine .more [] [98] [49] [49] [62, 120, 60, 47, 97, 62] 39 [] false _ (.inr rfl) (nm_of hb.1 hb.2.1 (stops_byte (by decide))) (by decide) ?_ (by simp) (.done _ _)
  exact Exp.last [49] (by decide)
 ·exact .chars false [120] [120] [60, 47, 97, 62] (by simp) (by decide) (.inr ⟨_, rfl⟩) (by decide) (Exp.last [120] (by decide))
 ·exact .shut false [97] [] (nm_of ha.1 ha.2.1 (stops_byte (by decide)))
theorem alive_may : mayDoc aliveT = true := by
 have h1 : textOk [49] = true := textOk_ascii _ (by decide)
 have h2 : textOk [120] = true := textOk_ascii _ (by decide)
 have hA : attrsOk [([], [98], [49])] = true := by
  unfold attrsOk attrsOkN attrsOkN
  simp only [plain_b, h1, textOk_nil]
  decide
 have hL : leafOk (.mk 1 [] [] [] [] [120]) = true := by
  unfold leafOk
  rw [show (Tr.mk 1 [] [] [] [] [120]).data = [120] from rfl, h2]
  decide
 have hK : mayBs [.mk 1 [] [] [] [] [120]] 0 2 = true := by
  unfold mayBs mayB mayBs
  rw [hL]
  decide
 show mayDoc (.mk 0 [] [97] [([], [98], [49])] [.mk 1 [] [] [] [] [120]] []) = true
 unfold mayDoc mayB
 rw [hA, hK, plain_a, textOk_nil]
 decide
theorem alive_spell : spell aliveT [] = [60, 97, 32, 98, 61, 34, 49, 34, 62, 120, 60, 47, 97, 62] := by rfl
def szA (l : List At) : Nat := (l.map fun a => a.1.length + a.2.1.length + a.2.2.length).sum
mutual
def szT : Tr → Nat
 | .mk _ sp nm at_ kids d => 1 + at_.length + d.length + sp.length + nm.length + szA at_ + szTs kids
def szTs : List Tr → Nat
 | [] => 0
 | t :: l => szT t + szTs l
end
theorem szT_eq (k : Int) (sp nm : Bs) (at_ : List At) (kids : List Tr) (d : Bs) : szT (.mk k sp nm at_ kids d) = 1 + at_.length + d.length + sp.length + nm.length + szA at_ + szTs kids := by
 conv => lhs; unfold szT
theorem szTs_cons (t : Tr) (l : List Tr) : szTs (t :: l) = szT t + szTs l := by
 conv => lhs; unfold szTs
theorem szA_cons (a : At) (l : List At) : szA (a :: l) = a.1.length + a.2.1.length + a.2.2.length + szA l := by simp [szA]
structure Good (l : Bs) (n : Nat) : Prop where
 ok : textOk l = true
 no : ∀ c ∈ l, c ≠ 13
 len : l.length ≤ n
theorem Good.app {a b : Bs} {n m : Nat} (ha : Good a n) (hb : Good b m) : Good (a ++ b) (n + m) :=
 ⟨textOk_append ha.ok hb.ok, fun c hc => by rcases List.mem_append.1 hc with h | h; exact ha.no c h; exact hb.no c h, by rw [List.length_append]; have := ha.len; have := hb.len; omega⟩
theorem Good.mono {a : Bs} {n m : Nat} (h : Good a n) (hm : n ≤ m) : Good a m := ⟨h.ok, h.no, Nat.le_trans h.len hm⟩
theorem Good.nil (n : Nat) : Good [] n := ⟨textOk_nil, fun c hc => (by cases hc), Nat.zero_le _⟩
theorem Good.lit (l : Bs) (h : (asciiOk l && l.all fun c => c != 13) = true) : Good l l.length := by
 simp only [Bool.and_eq_true] at h
 exact ⟨textOk_ascii l h.1, fun c hc => by have := List.all_eq_true.1 h.2 c hc; simpa using this, Nat.le_refl _⟩
theorem Good.cons (c : UInt8) {b : Bs} {n : Nat} (hb : Good b n) (h : (asciiOk [c] && [c].all fun c => c != 13) = true) : Good (c :: b) (n + 1) := by
 have := (Good.lit [c] h).app hb
 rw [List.singleton_append] at this
 exact this.mono (by simp; omega)
set_option maxRecDepth 10000 in
theorem Good.name {n : Bs} (h : plainB n = true) : Good n n.length := by
 obtain ⟨h0, hl, _⟩ := plain_parts h
 exact ⟨textOk_name n.length true n (Nat.le_refl _) hl, name_no hl 13 (by decide) (by decide), Nat.le_refl _⟩
theorem escB_len (a : Bool) (c : UInt8) : (escB a c).length ≤ 6 := by
 unfold escB
 repeat' split
 all_goals simp
theorem esc_len (a : Bool) (l : Bs) : (esc a l).length ≤ 6 * l.length := by
 induction l with
 | nil => exact Nat.zero_le _
 | cons c l ih =>
   rw [esc_cons, List.length_append, List.length_cons]
   have := escB_len a c
   omega
theorem Good.esc (a : Bool) {l : Bs} (h : textOk l = true) : Good (esc a l) (6 * l.length) :=
 ⟨textOk_esc a l.length l (Nat.le_refl _) h, fun c hc => (esc_no a l c hc).2.2.1, esc_len a l⟩
theorem Good.value {n v : Bs} {k : Nat} (hn : Good n k) (hv : textOk v = true) : Good (valueL n v) (k + 6 * v.length + 4) := by
 unfold valueL
 have h2 : Good [34] 1 := Good.lit [34] (by decide)
 exact ((hn.app (((Good.esc true hv).app h2).cons 34 (by decide) |>.cons 61 (by decide))).cons 32 (by decide)).mono (by omega)
theorem dec_two : ∀ i : Nat, i < 100 → (decDigits i).length ≤ 2 := by
 intro i hi
 unfold decDigits
 split
 ·simp
 ·have h9 : i / 10 < 10 := by omega
  unfold decDigits
  rw [dif_pos h9]
  simp
theorem pre_len (i : Nat) (h : i < 100) : (pre i).length ≤ 3 := by
 unfold pre
 rw [itoa_nat]
 have := dec_two i h
 simp
 omega
theorem tell_append (a b : List (Bs × Bs)) : tellPairs (a ++ b) = tellPairs a ++ tellPairs b := by unfold tellPairs; rw [List.flatMap_append]
theorem tell_one (n v : Bs) : tellPairs [(n, v)] = valueL n v := by simp [tellPairs]
theorem good_pairs : ∀ (l : List At) (i : Nat) (had : List (Bs × Bs)), attrsOkN had l = true → i + l.length ≤ 100 → Good (tellPairs (pairsAll i l)) (33 * (l.length + szA l))
 | [], i, had, _, _ => Good.nil _
 | a :: l, i, had, h, hi => by
   unfold attrsOkN at h
   simp only [Bool.and_eq_true] at h
   obtain ⟨⟨⟨⟨⟨_, hn⟩, hs⟩, hv⟩, _⟩, hl⟩ := h
   have ih := good_pairs l (i + 1) _ hl (by simp at hi; omega)
   unfold pairsAll
   rw [tell_append, szA_cons, List.length_cons]
   have hg : Good (tellPairs (pairsOf i a)) (33 + 6 * a.1.length + 2 * a.2.1.length + 6 * a.2.2.length) := by
    have hx : Good tXml 3 := Good.lit tXml (by decide)
    have hxn : Good tXmlns 5 := Good.lit tXmlns (by decide)
    have hp : Good (pre i) 3 := (Good.name (pre_plain i)).mono (pre_len i (by simp at hi; omega))
    have hnm := Good.name hn
    unfold pairsOf
    split
    ·rw [tell_one]
     exact (hnm.value hv).mono (by omega)
    ·split
     ·rw [tell_one]
      exact (((hx.app (hnm.cons 58 (by decide)))).value hv).mono (by omega)
     ·have e : ∀ (p q : Bs × Bs), ([p, q] : List (Bs × Bs)) = [p] ++ [q] := fun _ _ => rfl
      rw [e, tell_append, tell_one, tell_one]
      exact (((hxn.app (hp.cons 58 (by decide))).value hs).app ((hp.app (hnm.cons 58 (by decide))).value hv)).mono (by omega)
   exact (hg.app ih).mono (by omega)
theorem leaf_data {t : Tr} (h : leafOk t = true) : textOk t.data = true := by
 unfold leafOk at h
 simp only [Bool.and_eq_true] at h
 exact h.1.2
theorem no_of_contains {d : Bs} {x : UInt8} (h : (!d.contains x) = true) : ∀ c ∈ d, c ≠ x := by
 intro c hc e
 subst e
 rw [Bool.not_eq_true'] at h
 have := List.contains_iff_mem.2 hc
 rw [this] at h
 cases h
mutual
theorem good_spell : ∀ (t : Tr) (up : Bs) (depth : Nat), mayB t depth = true → Good (spell t up) (33 * szT t)
 | .mk k sp nm at_ kids d, up, depth, h => by
   by_cases h0 : k = 0
   ·subst h0
    obtain ⟨_, hd, hn, hs, _, _, ha, hk⟩ := mayB_el rfl h
    have ih := goods_spell kids sp 0 (depth + 1) hk
    have hat : at_.length ≤ 24 := by
     unfold attrsOk at ha
     simp only [Bool.and_eq_true, decide_eq_true_eq] at ha
     exact ha.2
    have hpa : Good (tellPairs (pairsAll 0 at_)) (33 * (at_.length + szA at_)) := by
     unfold attrsOk at ha
     simp only [Bool.and_eq_true] at ha
     exact good_pairs at_ 0 _ ha.1 (by omega)
    have hpe : Good (tellPairs (pairsEl sp up at_)) (9 + 6 * sp.length + 33 * (at_.length + szA at_)) := by
     unfold pairsEl
     rw [tell_append]
     refine Good.app ?_ hpa
     split
     ·exact Good.nil _
     ·rw [tell_one]
      exact ((Good.lit tXmlns (by decide)).value hs).mono (by show 5 + _ + 4 ≤ _; omega)
    have hnm := Good.name hn
    have ht : Good (if kids.isEmpty = true then [47, 62] else 62 :: (spells kids sp ++ (60 :: 47 :: (nm ++ [62])))) (33 * szTs kids + nm.length + 4) := by
     split
     ·exact (Good.lit [47, 62] (by decide)).mono (by simp <;> omega)
     ·exact ((ih.app (((hnm.app (Good.lit [62] (by decide))).cons 47 (by decide)).cons 60 (by decide))).cons 62 (by decide)).mono (by simp; omega)
    unfold spell
    rw [szT_eq]
    simp only [show ((0 : Int) = 1) = False from eq_false (by decide), show ((0 : Int) = 2) = False from eq_false (by decide), show ((0 : Int) = 3) = False from eq_false (by decide), if_false]
    exact ((hnm.app (hpe.app ht)).cons 60 (by decide)).mono (by omega)
   ·have hl := mayB_leaf (t := .mk k sp nm at_ kids d) h0 h
    have hlo : leafOk (.mk k sp nm at_ kids d) = true := by
     unfold mayB at h
     rw [if_neg h0] at h
     exact h
    have hd : textOk d = true := leaf_data hlo
    unfold leafOk at hlo
    simp only [Bool.and_eq_true] at hlo
    have hk := hlo.2
    unfold spell
    rw [szT_eq]
    by_cases k1 : k = 1
    ·subst k1
     rw [if_pos rfl]
     exact (Good.esc false hd).mono (by omega)
    ·rw [if_neg k1]
     by_cases k2 : k = 2
     ·subst k2
      rw [if_pos rfl]
      simp only [Tr.kind, Tr.nm, Tr.data, show ((2 : Int) = 1) = False from eq_false (by decide), if_false, if_true, Bool.and_eq_true] at hk
      have hgd : Good d d.length := ⟨hd, no_of_contains hk.1.2, Nat.le_refl _⟩
      exact ((((hgd.app (Good.lit [45, 45, 62] (by decide))).cons 45 (by decide)).cons 45 (by decide)).cons 33 (by decide) |>.cons 60 (by decide)).mono (by simp; omega)
     ·rw [if_neg k2]
      by_cases k3 : k = 3
      ·subst k3
       rw [if_pos rfl]
       simp only [Tr.kind, Tr.nm, Tr.data, show ((3 : Int) = 1) = False from eq_false (by decide), show ((3 : Int) = 2) = False from eq_false (by decide), if_false, if_true, Bool.and_eq_true] at hk
       have hgd : Good d d.length := ⟨hd, no_of_contains hk.1.1.2, Nat.le_refl _⟩
       have hx : Good (if d = [] then [] else 32 :: d) (d.length + 1) := by
        split
        ·exact Good.nil _
        ·exact hgd.cons 32 (by decide)
       exact ((((Good.name hk.1.1.1.1).app (hx.app (Good.lit [63, 62] (by decide)))).cons 63 (by decide)).cons 60 (by decide)).mono (by simp; omega)
      ·simp [Tr.kind, k1, k2, k3] at hk
theorem goods_spell : ∀ (l : List Tr) (up : Bs) (last : Int) (depth : Nat), mayBs l last depth = true → Good (spells l up) (33 * szTs l)
 | [], up, last, depth, _ => by unfold spells szTs; exact Good.nil _
 | t :: l, up, last, depth, h => by
   unfold mayBs at h
   simp only [Bool.and_eq_true] at h
   have h1 := good_spell t up depth h.1.2
   have h2 := goods_spell l up t.kind depth h.2
   unfold spells
   rw [szTs_cons]
   exact (h1.app h2).mono (by omega)
end
end Go.Proofs.YtadgeghipimfiaaGreatDoor.Z
end
section
namespace Go.Proofs.YtadgeghipimfiaaGreatDoor.Z
open Go.Proofs.YtadgeghipimfiaaGreatDoor.U
set_option linter.unusedVariables false
mutual
def TrB : Tr → Prop
 | .mk _ sp nm at_ kids d => sp.length < 140737488355328 ∧ nm.length < 140737488355328 ∧ d.length < 140737488355328 ∧ at_.length < 140737488355328 ∧ kids.length < 140737488355328 ∧ (∀ a ∈ at_, a.1.length < 140737488355328 ∧ a.2.1.length < 140737488355328 ∧ a.2.2.length < 140737488355328) ∧ TrBs kids
def TrBs : List Tr → Prop
 | [] => True
 | t :: l => TrB t ∧ TrBs l
end
theorem TrB.open {k : Int} {sp nm d : Bs} {at_ : List At} {kids : List Tr} (h : TrB (.mk k sp nm at_ kids d)) :
  sp.length < 140737488355328 ∧ nm.length < 140737488355328 ∧ d.length < 140737488355328 ∧ at_.length < 140737488355328 ∧ kids.length < 140737488355328 ∧ (∀ a ∈ at_, a.1.length < 140737488355328 ∧ a.2.1.length < 140737488355328 ∧ a.2.2.length < 140737488355328) ∧ TrBs kids := by
 unfold TrB at h
 exact h
end Go.Proofs.YtadgeghipimfiaaGreatDoor.Z
end
section
namespace Go.Proofs.YtadgeghipimfiaaGreatDoor.RowTree
open Go.RowKit Go.Deep Go.ChangeShapes Go.WideShapes Go.Proofs.YtadgeghipimfiaaGreatDoorW.PrintWords Go.Proofs.YtadgeghipimfiaaGreatDoor.Pg Go.Proofs.YtadgeghipimfiaaGreatDoor.X Go.Proofs.YtadgeghipimfiaaGreatDoor.Z
set_option linter.unusedSimpArgs false
set_option linter.unusedVariables false
theorem weightsAll_mem {H : Type} {P : Program} {e : TypeId} : ∀ {ds : List (DataW H)} {d : DataW H} {n : Nat}, d ∈ ds → n ∈ d.weights P e → n ∈ DataW.weightsAll P e ds
 | a :: t, d, n, hd, hn => by
   rw [DataW.weightsAll, List.mem_append]
   rcases List.mem_cons.1 hd with rfl | hd
   ·exact .inl hn
   ·exact .inr (weightsAll_mem hd hn)
 | [], _, _, hd, _ => by simp at hd
theorem reach_lt : reachBytes < 140737488355328 := by decide
theorem slice_of {α : Type} (d : Kd α) (z0 : α) (Q : α → Prop) {H : Type} {enc : TypeId × Value → H} {W : World} {t e : TypeId} {fuel : Nat} {cs : List Value} {x : DataW H × List MemPlace} (ht : Tryz.prog.underlying t = some (.slice e)) (ce : Tryz.prog.cellsOf e = d.sz) (hby : 1 ≤ Tryz.prog.bytesOf e)
  (h : DataW.trod enc Tryz.prog W 0 (fun _ => true) true fuel t cs = some x) (hz : ∀ n ∈ x.1.weights Tryz.prog t, n ≤ reachBytes)
  (each : ∀ m cs' y, m < fuel → DataW.trod enc Tryz.prog W 0 (fun _ => true) true m e cs' = some y → (∀ n ∈ y.1.weights Tryz.prog e, n ≤ reachBytes) → ∃ z, d.K W z cs' ∧ Q z) :
  ∃ A c l, cs = [.slice A l.length c] ∧ l.length ≤ c ∧ d.C W A l.length l ∧ l.length < 140737488355328 ∧ ∀ z ∈ l, Q z := by
 rcases DataW.trod_slice ht h with ⟨rfl, _⟩ | ⟨a, len, cap, elems, rest, n, hn, rfl, hx, hb, hl, hm, hlen, hel, hsp, _⟩
 ·exact ⟨none, 0, [], rfl, Nat.le_refl _, ⟨rfl, by simp, fun h => absurd h (by simp)⟩, by simp, fun _ hy => absurd hy (by simp)⟩
 ·have hx1 : x.1 = .slice (elems.map (·.1)) (rest.map (·.1)) := by rw [hx]
  rw [hx1] at hz
  simp only [DataW.weights, ht] at hz
  have hbig : len < 140737488355328 := by
   have h1 := hz _ (List.mem_cons_self ..)
   rw [List.length_map, List.length_map, hlen] at h1
   have h2 : len + rest.length ≤ (len + rest.length) * Tryz.prog.bytesOf e := Nat.le_mul_of_pos_right _ hby
   have h3 := reach_lt
   omega
  have hone : ∀ i, i < len → ∃ q : α × List Value, (d.K W q.1 q.2 ∧ Q q.1) ∧ ∀ j u, q.2[j]? = some u → W.cell? (a.add (i * d.sz + j)) = some u := by
   intro i hi
   have h1 := hel i hi
   obtain ⟨y, hy⟩ : ∃ y, elems[i]? = some y := ⟨_, List.getElem?_eq_getElem (by omega)⟩
   rw [hy, ce] at h1
   obtain ⟨cs', hc, ht'⟩ := Option.bind_eq_some_iff.1 h1
   obtain ⟨z, hK, hQ⟩ := each n cs' y (by omega) ht' (fun k hk => hz k (List.mem_cons_of_mem _ (List.mem_append.2 (.inl (weightsAll_mem (d := y.1) (List.mem_map.2 ⟨y, List.mem_of_getElem? hy, rfl⟩) hk)))))
   obtain ⟨_, hlen', hcell⟩ := World.cells?_some hc
   refine ⟨(z, cs'), ⟨hK, hQ⟩, fun j u hu => ?_⟩
   have hj : j < d.sz := by
    have := (List.getElem?_eq_some_iff.1 hu).1
    have h4 : cs'.length = d.sz := hlen'
    have h5 : j < cs'.length := this
    omega
   have := hcell j hj
   rw [Deep.add_add] at this
   rw [this]
   exact hu
  obtain ⟨g, hg⟩ := @choose_lt (α × List Value) ⟨(z0, [])⟩ _ _ hone
  refine ⟨some a, cap, (List.range len).map fun i => (g i).1, by simp, by simpa using hl, ⟨by simp, ?_, fun _ => ⟨a, rfl, ?_⟩⟩, by simpa using hbig, ?_⟩
  ·simp only [List.length_map, List.length_range]
   omega
  ·intro j p hp
   obtain ⟨hj, rfl⟩ : j < len ∧ (g j).1 = p := by
    rw [List.getElem?_map] at hp
    by_cases hj : j < len
    ·rw [List.getElem?_range hj] at hp
     exact ⟨hj, Option.some.inj hp⟩
    ·rw [List.getElem?_eq_none (by simp; omega)] at hp
     cases hp
   exact ⟨(g j).2, d.K_len (hg j hj).1.1, (hg j hj).1.1, (hg j hj).2⟩
  ·intro y hy
   obtain ⟨j, hj, rfl⟩ := List.mem_map.1 hy
   exact (hg j (List.mem_range.1 hj)).1.2
theorem monoTr : Kd.Mono trF := Kd.mono_iso _ (Kd.mono_pair (Kd.mono_const _) (Kd.mono_pair (Kd.mono_const _) (Kd.mono_pair (Kd.mono_const _) (Kd.mono_pair (Kd.mono_const _) (Kd.mono_pair (Kd.mono_slice 25 Kd.mono_id) (Kd.mono_const _))))))
theorem kTr_mkK (w : World) (t : Tr) {A : Option Addr} {c : Nat} (hc : t.attrs.length ≤ c) (hA : kAttr.C w A t.attrs.length t.attrs) {B : Option Addr} {e : Nat} (he : t.kids.length ≤ e) (hB : kTr.C w B t.kids.length t.kids) :
  kTr.K w t [.int .i64 t.kind, .string (M t.sp), .string (M t.nm), .slice A t.attrs.length c, .slice B t.kids.length e, .string (M t.data)] := by
 obtain ⟨n, q⟩ := Kd.fix_C_back monoTr hB
 exact ⟨n + 1, [_], _, rfl, rfl, [_], _, rfl, rfl, [_], _, rfl, rfl, [_], _, rfl, ⟨A, c, rfl, hc, hA⟩, [_], [_], rfl, ⟨B, e, rfl, he, q⟩, rfl⟩
def AtB (a : Z.At) : Prop := a.1.length < 140737488355328 ∧ a.2.1.length < 140737488355328 ∧ a.2.2.length < 140737488355328
set_option maxRecDepth 100000 in
theorem attr_of {H : Type} {enc : TypeId × Value → H} {W : World} {fuel : Nat} {cs : List Value} {x : DataW H × List MemPlace} (h : DataW.trod enc Tryz.prog W 0 (fun _ => true) true fuel 38 cs = some x) (hz : ∀ n ∈ x.1.weights Tryz.prog 38, n ≤ reachBytes) : ∃ a : Z.At, kAttr.K W a cs ∧ AtB a := by
 obtain ⟨xs, n, _, hxx, hcl, hlen, hf⟩ := DataW.trod_struct Tryz.underlying38 h
 have hce : Tryz.prog.cellsOf 38 = 3 := by kernel_rfl
 rw [hce] at hcl
 obtain ⟨c0, c1, c2, rfl⟩ : ∃ c0 c1 c2, cs = [c0, c1, c2] := by
  match cs, hcl with
  | [c0, c1, c2], _ => exact ⟨c0, c1, c2, rfl⟩
 obtain ⟨y0, y1, y2, rfl⟩ : ∃ y0 y1 y2, xs = [y0, y1, y2] := by
  match xs, hlen with
  | [y0, y1, y2], _ => exact ⟨y0, y1, y2, rfl⟩
 have t0 := hf 0 { name := "Space", type := 9, offset := 0, embedded := false, tag := "", pkgPath := "", byteOffset := 0 } rfl
 have t1 := hf 1 { name := "Name", type := 9, offset := 1, embedded := false, tag := "", pkgPath := "", byteOffset := 16 } rfl
 have t2 := hf 2 { name := "Value", type := 9, offset := 2, embedded := false, tag := "", pkgPath := "", byteOffset := 32 } rfl
 have u9 : Tryz.prog.cellsOf 9 = 1 := by kernel_rfl
 simp only [u9, List.drop_zero, List.drop_succ_cons, List.take_succ_cons, List.take_zero, List.getElem?_cons_zero, List.getElem?_cons_succ, Option.some.injEq] at t0 t1 t2
 obtain ⟨s0, e0, x0, _⟩ := DataW.trod_string Tryz.underlying9 t0
 obtain ⟨s1, e1, x1, _⟩ := DataW.trod_string Tryz.underlying9 t1
 obtain ⟨s2, e2, x2, _⟩ := DataW.trod_string Tryz.underlying9 t2
 simp only [List.cons.injEq, and_true] at e0 e1 e2
 subst e0 e1 e2
 rw [show x.1 = .agg [y0.1, y1.1, y2.1] from by rw [hxx]; rfl] at hz
 simp only [DataW.weights, Tryz.underlying38, DataW.weightsEach, List.map_cons, List.map_nil, List.append_nil, List.mem_append] at hz
 have b0 := hz s0.data.toList.length (.inl (by rw [x0]; simp [DataW.weights]))
 have b1 := hz s1.data.toList.length (.inr (.inl (by rw [x1]; simp [DataW.weights])))
 have b2 := hz s2.data.toList.length (.inr (.inr (by rw [x2]; simp [DataW.weights])))
 have hr := reach_lt
 refine ⟨(s0.data.toList, s1.data.toList, s2.data.toList), ⟨[.string s0], [.string s1, .string s2], rfl, rfl, [.string s1], [.string s2], rfl, rfl, rfl⟩, ?_, ?_, ?_⟩
 ·show s0.data.toList.length < _; omega
 ·show s1.data.toList.length < _; omega
 ·show s2.data.toList.length < _; omega
theorem TrBs_of : ∀ (l : List Tr), (∀ t ∈ l, TrB t) → TrBs l
 | [], _ => by unfold TrBs; trivial
 | t :: l, h => by
   unfold TrBs
   exact ⟨h t List.mem_cons_self, TrBs_of l fun x hx => h x (List.mem_cons_of_mem _ hx)⟩
set_option maxRecDepth 100000 in
theorem tree_of {H : Type} {enc : TypeId × Value → H} {W : World} : ∀ (fuel : Nat) (cs : List Value) (x : DataW H × List MemPlace), DataW.trod enc Tryz.prog W 0 (fun _ => true) true fuel 25 cs = some x → (∀ n ∈ x.1.weights Tryz.prog 25, n ≤ reachBytes) → ∃ t : Tr, kTr.K W t cs ∧ TrB t := by
 intro fuel
 induction fuel using Nat.strongRecOn with
 | _ fuel ih =>
 intro cs x h hz
 obtain ⟨xs, n, hfn, hxx, hcl, hlen, hf⟩ := DataW.trod_struct Tryz.underlying25 h
 have hce : Tryz.prog.cellsOf 25 = 6 := by kernel_rfl
 rw [hce] at hcl
 obtain ⟨c0, c1, c2, c3, c4, c5, rfl⟩ : ∃ c0 c1 c2 c3 c4 c5, cs = [c0, c1, c2, c3, c4, c5] := by
  match cs, hcl with
  | [c0, c1, c2, c3, c4, c5], _ => exact ⟨c0, c1, c2, c3, c4, c5, rfl⟩
 obtain ⟨y0, y1, y2, y3, y4, y5, rfl⟩ : ∃ y0 y1 y2 y3 y4 y5, xs = [y0, y1, y2, y3, y4, y5] := by
  match xs, hlen with
  | [y0, y1, y2, y3, y4, y5], _ => exact ⟨y0, y1, y2, y3, y4, y5, rfl⟩
 have t0 := hf 0 { name := "Kind", type := 3, offset := 0, embedded := false, tag := "", pkgPath := "", byteOffset := 0 } rfl
 have t1 := hf 1 { name := "Space", type := 9, offset := 1, embedded := false, tag := "", pkgPath := "", byteOffset := 8 } rfl
 have t2 := hf 2 { name := "Name", type := 9, offset := 2, embedded := false, tag := "", pkgPath := "", byteOffset := 24 } rfl
 have t3 := hf 3 { name := "Attrs", type := 22, offset := 3, embedded := false, tag := "", pkgPath := "", byteOffset := 40 } rfl
 have t4 := hf 4 { name := "Kids", type := 23, offset := 4, embedded := false, tag := "", pkgPath := "", byteOffset := 64 } rfl
 have t5 := hf 5 { name := "Data", type := 9, offset := 5, embedded := false, tag := "", pkgPath := "", byteOffset := 88 } rfl
 have u3 : Tryz.prog.cellsOf 3 = 1 := by kernel_rfl
 have u9 : Tryz.prog.cellsOf 9 = 1 := by kernel_rfl
 have u22 : Tryz.prog.cellsOf 22 = 1 := by kernel_rfl
 have u23 : Tryz.prog.cellsOf 23 = 1 := by kernel_rfl
 simp only [u3, u9, u22, u23, List.drop_zero, List.drop_succ_cons, List.take_succ_cons, List.take_zero, List.getElem?_cons_zero, List.getElem?_cons_succ, Option.some.injEq] at t0 t1 t2 t3 t4 t5
 obtain ⟨k, e0, x0, _⟩ := DataW.trod_int Tryz.underlying3 t0
 obtain ⟨s1, e1, x1, _⟩ := DataW.trod_string Tryz.underlying9 t1
 obtain ⟨s2, e2, x2, _⟩ := DataW.trod_string Tryz.underlying9 t2
 obtain ⟨s5, e5, x5, _⟩ := DataW.trod_string Tryz.underlying9 t5
 simp only [List.cons.injEq, and_true] at e0 e1 e2 e5
 subst e0 e1 e2 e5
 rw [show x.1 = .agg [y0.1, y1.1, y2.1, y3.1, y4.1, y5.1] from by rw [hxx]; rfl] at hz
 simp only [DataW.weights, Tryz.underlying25, DataW.weightsEach, List.map_cons, List.map_nil, List.append_nil, List.mem_append] at hz
 have b1 := hz s1.data.toList.length (.inr (.inl (by rw [x1]; simp [DataW.weights])))
 have b2 := hz s2.data.toList.length (.inr (.inr (.inl (by rw [x2]; simp [DataW.weights]))))
 have b5 := hz s5.data.toList.length (.inr (.inr (.inr (.inr (.inr (by rw [x5]; simp [DataW.weights]))))))
 obtain ⟨A, c, at_, ea, hca, hA, hlA, hqA⟩ := slice_of kAttr ([], [], []) AtB Tryz.underlying22 (by kernel_rfl) (by rw [show Tryz.prog.bytesOf 38 = 48 by kernel_rfl]; decide) t3 (fun n hn => hz n (.inr (.inr (.inr (.inl hn))))) (fun m cs' y _ ht hw => attr_of ht hw)
 obtain ⟨Bk, e, kids, ek, hke, hB, hlK, hqK⟩ := slice_of kTr (.mk 0 [] [] [] [] []) TrB Tryz.underlying23 (by kernel_rfl) (by rw [show Tryz.prog.bytesOf 25 = 104 by kernel_rfl]; decide) t4 (fun n hn => hz n (.inr (.inr (.inr (.inr (.inl hn)))))) (fun m cs' y hm ht hw => ih m (by omega) cs' y ht hw)
 obtain rfl := (List.cons.inj ea).1
 obtain rfl := (List.cons.inj ek).1
 have hr := reach_lt
 refine ⟨.mk k s1.data.toList s2.data.toList at_ kids s5.data.toList, kTr_mkK W (.mk k s1.data.toList s2.data.toList at_ kids s5.data.toList) hca hA hke hB, ?_⟩
 unfold TrB
 exact ⟨by omega, by omega, by omega, hlA, hlK, hqA, TrBs_of kids hqK⟩
set_option maxRecDepth 100000 in
theorem one25 {H : Type} {enc : TypeId × Value → H} {W : World} {v : Value} {d : DataW H} {p : List MemPlace} {base : Nat} {r : Reach} (ho : Value.okWide Tryz.prog W r base 25 v) (h : DataW.Trod enc Tryz.prog W 0 (fun _ => true) true 25 v d p) (hz : ∀ n ∈ d.weights Tryz.prog 25, n ≤ reachBytes) :
  ∃ (t : Tr) (cs : List Value), v = .agg cs.toArray ∧ kTr.K W t cs ∧ TrB t := by
 obtain ⟨cs, rfl, hcs⟩ := okWide_struct Tryz.underlying25 ho
 obtain ⟨fuel, hf⟩ := h
 obtain ⟨t, hK, hT⟩ := tree_of fuel _ _ hf hz
 exact ⟨t, cs.toList, rfl, hK, hT⟩
end Go.Proofs.YtadgeghipimfiaaGreatDoor.RowTree
end
section
namespace Go.Proofs.YtadgeghipimfiaaGreatDoor.Z
open Go.Proofs.YtadgeghipimfiaaGreatDoor.U Go.Proofs.YtadgeghipimfiaaGreatDoor.X Go.Lib
set_option linter.unusedVariables false
set_option linter.unusedSimpArgs false
abbrev Tb := List (UInt8 × Bs)
def Tb.byte (tb : Tb) (c : UInt8) : Bs := match tb.lookup c with | some v => v | none => [c]
def Tb.text (tb : Tb) (l : Bs) : Bs := l.flatMap tb.byte
def tbText : Tb := [(38, [38, 97, 109, 112, 59]), (60, [38, 108, 116, 59]), (62, [38, 103, 116, 59]), (13, [38, 35, 120, 68, 59])]
def tbValue : Tb := tbText ++ [(34, [38, 113, 117, 111, 116, 59]), (9, [38, 35, 120, 57, 59]), (10, [38, 35, 120, 65, 59])]
theorem tb_text (l : Bs) : tbText.text l = esc false l := by
 have : tbText.byte = escB false := by
  funext c
  unfold Tb.byte tbText escB
  simp only [List.lookup_cons, List.lookup_nil, beq_iff_eq]
  by_cases h1 : c = 38
  ·subst h1; rfl
  ·by_cases h2 : c = 60
   ·subst h2; rfl
   ·by_cases h3 : c = 62
    ·subst h3; rfl
    ·by_cases h4 : c = 13
     ·subst h4; rfl
     ·simp [h1, h2, h3, h4, (beq_eq_false_iff_ne).2 h1, (beq_eq_false_iff_ne).2 h2, (beq_eq_false_iff_ne).2 h3, (beq_eq_false_iff_ne).2 h4]
 unfold Tb.text esc
 rw [this]
theorem tb_value (l : Bs) : tbValue.text l = esc true l := by
 have : tbValue.byte = escB true := by
  funext c
  unfold Tb.byte tbValue tbText escB
  simp only [List.cons_append, List.nil_append, List.lookup_cons, List.lookup_nil, beq_iff_eq]
  by_cases h1 : c = 38
  ·subst h1; rfl
  ·by_cases h2 : c = 60
   ·subst h2; rfl
   ·by_cases h3 : c = 62
    ·subst h3; rfl
    ·by_cases h4 : c = 13
     ·subst h4; rfl
     ·by_cases h5 : c = 34
      ·subst h5; rfl
      ·by_cases h6 : c = 9
       ·subst h6; rfl
       ·by_cases h7 : c = 10
        ·subst h7; rfl
        ·simp [h1, h2, h3, h4, h5, h6, h7, (beq_eq_false_iff_ne).2 h1, (beq_eq_false_iff_ne).2 h2, (beq_eq_false_iff_ne).2 h3, (beq_eq_false_iff_ne).2 h4, (beq_eq_false_iff_ne).2 h5, (beq_eq_false_iff_ne).2 h6, (beq_eq_false_iff_ne).2 h7]
 unfold Tb.text esc
 rw [this]
structure Tb.Ok (tb : Tb) : Prop where
 keys : (tb.map (·.1)).Nodup
 some : ∀ p ∈ tb, 1 ≤ p.2.length ∧ p.2.length ≤ 10
 few : tb.length ≤ 10
theorem tbText_ok : tbText.Ok := ⟨by decide, by decide, by decide⟩
theorem tbValue_ok : tbValue.Ok := ⟨by decide, by decide, by decide⟩
theorem Tb.text_append (tb : Tb) (a b : Bs) : tb.text (a ++ b) = tb.text a ++ tb.text b := List.flatMap_append
theorem Tb.text_one (tb : Tb) (c : UInt8) : tb.text [c] = tb.byte c := by unfold Tb.text; simp
theorem lookup_mem : ∀ (tb : Tb) (c : UInt8) (v : Bs), tb.lookup c = some v → (c, v) ∈ tb
 | [], c, v, h => by cases h
 | (k, u) :: tb, c, v, h => by
   rw [List.lookup_cons] at h
   split at h
   ·rename_i hk
    rw [beq_iff_eq] at hk
    injection h with h
    rw [hk, h]
    exact List.mem_cons_self
   ·exact List.mem_cons_of_mem _ (lookup_mem tb c v h)
theorem lookup_of_mem : ∀ (tb : Tb) (c : UInt8) (v : Bs), (tb.map (·.1)).Nodup → (c, v) ∈ tb → tb.lookup c = some v
 | [], c, v, _, h => by cases h
 | (k, u) :: tb, c, v, hn, h => by
   rw [List.map_cons, List.nodup_cons] at hn
   rw [List.lookup_cons]
   rcases List.mem_cons.1 h with e | h'
   ·rw [(Prod.mk.inj e).1, (Prod.mk.inj e).2]
    simp
   ·have : (c == k) = false := by
     rw [beq_eq_false_iff_ne]
     rintro rfl
     exact hn.1 (List.mem_map.2 ⟨(c, v), h', rfl⟩)
    rw [this]
    exact lookup_of_mem tb c v hn.2 h'
def Tb.more : Tb → Bs → Nat
 | [], _ => 0
 | (k, v) :: tb, l => l.count k * (v.length - 1) + Tb.more tb l
theorem Tb.more_append : ∀ (tb : Tb) (a b : Bs), tb.more (a ++ b) = tb.more a + tb.more b
 | [], _, _ => rfl
 | (k, v) :: tb, a, b => by
   unfold Tb.more
   rw [Tb.more_append tb a b, List.count_append, Nat.add_mul]
   omega
theorem Tb.more_zero : ∀ (tb : Tb) (c : UInt8), (∀ p ∈ tb, p.1 ≠ c) → tb.more [c] = 0
 | [], _, _ => rfl
 | (k, v) :: tb, c, h => by
   unfold Tb.more
   have h1 := h (k, v) List.mem_cons_self
   rw [Tb.more_zero tb c fun p hp => h p (List.mem_cons_of_mem _ hp), List.count_singleton, if_neg]
   ·simp
   ·simpa using fun e => h1 e.symm
theorem Tb.more_one : ∀ (tb : Tb) (c : UInt8), (tb.map (·.1)).Nodup → (∀ p ∈ tb, 1 ≤ p.2.length) → (tb.byte c).length = 1 + tb.more [c]
 | [], c, _, _ => rfl
 | (k, v) :: tb, c, hn, hs => by
   rw [List.map_cons, List.nodup_cons] at hn
   have hv := hs (k, v) List.mem_cons_self
   have ih := Tb.more_one tb c hn.2 fun p hp => hs p (List.mem_cons_of_mem _ hp)
   unfold Tb.byte at ih ⊢
   unfold Tb.more
   rw [List.lookup_cons]
   by_cases e : c = k
   ·subst e
    have hv : 1 ≤ v.length := hv
    rw [Tb.more_zero tb c fun p hp e => hn.1 (List.mem_map.2 ⟨p, hp, e⟩)]
    simp
    omega
   ·rw [(beq_eq_false_iff_ne).2 e, List.count_singleton, if_neg (by simpa using e)]
    simpa using ih
theorem Tb.text_len {tb : Tb} (h : tb.Ok) : ∀ l : Bs, (tb.text l).length = l.length + tb.more l
 | [] => by
   have : tb.more [] = 0 := by
    clear h
    induction tb with
    | nil => rfl
    | cons p tb ih => obtain ⟨k, v⟩ := p; unfold Tb.more; rw [ih]; simp
   rw [this]; rfl
 | c :: l => by
   rw [show c :: l = [c] ++ l from rfl, Tb.text_append, Tb.more_append, List.length_append, Tb.text_len h l, Tb.text_one, Tb.more_one tb c h.keys fun p hp => (h.some p hp).1]
   simp
   omega
def Tb.any (tb : Tb) (l : Bs) : Bool := l.any fun c => (tb.lookup c).isSome
theorem Tb.text_none {tb : Tb} : ∀ {l : Bs}, tb.any l = false → tb.text l = l
 | [], _ => rfl
 | c :: l, h => by
   unfold Tb.any at h
   rw [List.any_cons, Bool.or_eq_false_iff] at h
   rw [show c :: l = [c] ++ l from rfl, Tb.text_append, Tb.text_none (l := l) h.2, Tb.text_one]
   unfold Tb.byte
   cases hx : tb.lookup c with
   | none => rfl
   | some v => rw [hx] at h; cases h.1
end Go.Proofs.YtadgeghipimfiaaGreatDoor.Z
end
section
namespace Go.Proofs.YtadgeghipimfiaaGreatDoor.X
open Go.RowKit Go.Shelf Go.Proofs.YtadgeghipimfiaaGreatDoorW.PrintWords Go.Proofs.YtadgeghipimfiaaGreatDoor.F Go.Proofs.YtadgeghipimfiaaGreatDoor.Pg Go.Proofs.YtadgeghipimfiaaGreatDoor.Z
set_option linter.unusedVariables false
set_option linter.unusedSimpArgs false
theorem eq73 (W : World) : (binOp .eql 42 (.slice none 0 0) (.slice none 0 0)).run Tryz.prog W = .ok (.bool true) W := by kernel_rfl
theorem conv73 (W : World) (x : UInt8) : (convert 42 9 (.slice (some ⟨W.heap.size, 0, none⟩) 1 1)).run Tryz.prog (W.alloc (.cells #[.int .u8 (x.toNat : Int)] 5)) = .ok (.string (M [x])) (W.alloc (.cells #[.int .u8 (x.toNat : Int)] 5)) :=
 Lib.run_convert_whole (W.alloc (.cells #[.int .u8 (x.toNat : Int)] 5)) 42 5 9 Tryz.underlying42 Tryz.underlying5 Tryz.underlying9 W.heap.size 0 ⟨#[x]⟩ (fun i hi => by
  have : i = 0 := by have : i < 1 := hi; omega
  subst this
  have h := World.alloc_heap_new W (.cells #[.int .u8 (x.toNat : Int)] 5)
  unfold World.cell?
  rw [h]
  rfl) 1
noncomputable def repC (v : Value) : Array Value := Tryz.zeroCells197.setIfInBounds 256 v
theorem repZ_size : Tryz.zeroCells197.size = 257 := by kernel_rfl
theorem repZ_all : Tryz.zeroCells197.all (·.oneCell') = true := by kernel_rfl
set_option maxRecDepth 100000 in
theorem repZ_get : ∀ i : Nat, i < 257 → Tryz.zeroCells197[i]? = some (.slice none 0 0) := by
 have h : ((List.range 257).all fun i => match Tryz.zeroCells197[i]? with | some (.slice none 0 0) => true | _ => false) = true := by kernel_rfl
 intro i hi
 have := List.all_eq_true.1 h i (List.mem_range.2 hi)
 split at this
 ·assumption
 ·cases this
theorem repC_get (v : Value) (i : Nat) (h : i < 256) : (repC v)[i]? = some (.slice none 0 0) := by
 unfold repC
 rw [Array.getElem?_setIfInBounds_ne (by omega)]
 exact repZ_get i (by omega)
theorem repC_last (v : Value) : (repC v)[256]? = some v := by
 unfold repC
 rw [Array.getElem?_setIfInBounds_self, if_pos (by rw [repZ_size]; decide)]
theorem repC_size (v : Value) : (repC v).size = 257 := by unfold repC; rw [Array.size_setIfInBounds]; exact repZ_size
set_option maxRecDepth 100000 in
theorem rep_store (W : World) (n m : Nat) : (storeCells ⟨W.heap.size, 0, none⟩ (Tryz.zeroCells197.toList.set 256 (.slice (some ⟨n, 0, none⟩) 0 m)) 0).run Tryz.prog (W.alloc (.cells Tryz.zeroCells197 197)) = .ok () (W.alloc (.cells (repC (.slice (some ⟨n, 0, none⟩) 0 m)) 197)) := by
 have hs : (repC (.slice (some ⟨n, 0, none⟩) 0 m)).size = 257 := repC_size _
 have := run_storeCells_new (P := Tryz.prog) W 197 Tryz.zeroCells197 (repC (.slice (some ⟨n, 0, none⟩) 0 m)) (by rw [hs]; kernel_rfl) (by rw [hs]; exact repZ_size) (by
  rw [Array.all_eq_true_iff_forall_mem]
  intro x hx
  rcases Array.mem_or_eq_of_mem_setIfInBounds hx with h | h
  ·exact Array.all_eq_true_iff_forall_mem.1 repZ_all x h
  ·rw [h]; rfl)
 rw [show (repC (.slice (some ⟨n, 0, none⟩) 0 m)).toList = Tryz.zeroCells197.toList.set 256 (.slice (some ⟨n, 0, none⟩) 0 m) from by unfold repC; rw [Array.toList_setIfInBounds]] at this
 exact this
def EntAt (W : World) (cs : Array Value) (c : UInt8) : Option Bs → Prop
 | none => cs[c.toNat]? = some (.slice none 0 0)
 | some v => ∃ q cp, cs[c.toNat]? = some (.slice (some ⟨q, 0, none⟩) v.length cp) ∧ BytesAt W q v
theorem EntAt.move {W W' : World} {cs cs' : Array Value} {c : UInt8} {o : Option Bs} (h : EntAt W cs c o) (hc : ∀ i, i < 256 → cs'[i]? = cs[i]?) (hm : ∀ (k : Nat) (ds : Array Value) (z : Nat × Nat), W.heap[k]? = some (Obj.cells ds 5 z) → W'.heap[k]? = some (Obj.cells ds 5 z)) : EntAt W' cs' c o := by
 cases o with
 | none => exact (hc _ c.toNat_lt).trans h
 | some v =>
   obtain ⟨q, cp, h1, ds, z, h2, h3, h4⟩ := h
   exact ⟨q, cp, (hc _ c.toNat_lt).trans h1, ds, z, hm q ds _ h2, h3, h4⟩
structure TbAt (W : World) (base p : Nat) (d : Tb) : Prop where
 ge : base ≤ p
 at_ : ∃ v cs, Blk W p cs 197 ∧ cs.size = 257 ∧ cs[256]? = some v ∧ W.ownsRow base 9 1 v d.length (d.map fun x => .string (M [x.1])) ∧ ∀ c : UInt8, EntAt W cs c (d.lookup c)
def tbFlat (tb : Tb) : List Bs := tb.flatMap fun p => [[p.1], p.2]
theorem flat_len : ∀ tb : Tb, (tbFlat tb).length = 2 * tb.length
 | [] => rfl
 | p :: tb => by
   show ([[p.1], p.2] ++ tbFlat tb).length = _
   rw [List.length_append, flat_len tb, List.length_cons]
   simp
   omega
theorem flat_at : ∀ (tb : Tb) (m : Nat) (h : m < tb.length), (tbFlat tb)[2 * m]? = some [tb[m].1] ∧ (tbFlat tb)[2 * m + 1]? = some tb[m].2
 | p :: tb, 0, _ => ⟨rfl, rfl⟩
 | p :: tb, m + 1, h => by
   have ih := flat_at tb m (by simpa using h)
   have e1 : 2 * (m + 1) = 2 * m + 2 := by omega
   have e2 : 2 * (m + 1) + 1 = 2 * m + 1 + 2 := by omega
   constructor
   ·rw [e1]
    show ([[p.1], p.2] ++ tbFlat tb)[2 * m + 2]? = _
    rw [List.getElem?_append_right (by simp)]
    simpa using ih.1
   ·rw [e2]
    show ([[p.1], p.2] ++ tbFlat tb)[2 * m + 1 + 2]? = _
    rw [List.getElem?_append_right (by simp)]
    simpa using ih.2
theorem row_two {W : World} {g : Nat} {tb : Tb} (h : StrRow W g (tbFlat tb)) (m : Nat) (hm : m < tb.length) : W.cell? ⟨g, 2 * m, none⟩ = some (.string (M [tb[m].1])) ∧ W.cell? ⟨g, 2 * m + 1, none⟩ = some (.string (M tb[m].2)) := by
 obtain ⟨h1, h2⟩ := flat_at tb m hm
 obtain ⟨k1, e1⟩ := List.getElem?_eq_some_iff.1 h1
 obtain ⟨k2, e2⟩ := List.getElem?_eq_some_iff.1 h2
 refine ⟨?_, ?_⟩
 ·rw [h (2 * m) k1, e1]
 ·rw [h (2 * m + 1) k2, e2]
theorem tb_new (w : World) (n : Nat) (hn : n ≤ 10) : TbAt ((w.alloc (.cells (Array.replicate n (.string ⟨#[]⟩)) 9)).alloc (.cells (repC (.slice (some ⟨w.heap.size, 0, none⟩) 0 n)) 197)) w.heap.size (w.heap.size + 1) [] := by
 have h1 := Blk.new (w.alloc (.cells (Array.replicate n (.string ⟨#[]⟩)) 9)) (repC (.slice (some ⟨w.heap.size, 0, none⟩) 0 n)) 197
 rw [World.size_alloc] at h1
 have h0 := (Blk.new w (Array.replicate n (.string ⟨#[]⟩)) 9).below ((Below.refl (w.heap.size + 1) (w.alloc (.cells (Array.replicate n (.string ⟨#[]⟩)) 9))).alloc (by rw [World.size_alloc]; omega) (.cells (repC (.slice (some ⟨w.heap.size, 0, none⟩) 0 n)) 197)) (by omega)
 refine ⟨by omega, _, _, h1, repC_size _, repC_last _, ?_, fun c => repC_get _ _ c.toNat_lt⟩
 exact ⟨rfl, .inr ⟨w.heap.size, n, _, rfl, Nat.le_refl _, h0, by simp, by unfold maxLen; omega, by simp, rfl⟩⟩
theorem bw_below (w : World) (s : ByteArray) : Below w.heap.size w (Lib.bytesWorld w 5 s) := ⟨rfl, rfl, rfl, by rw [Lib.bytesWorld_size]; omega, fun k hk => Lib.bytesWorld_at_old w 5 s k hk⟩
theorem tb_step {W : World} {base p : Nat} {d : Tb} {ch : UInt8} {vv : Bs} {cs : Array Value} {v : Value} (hp : Blk W p cs 197) (hsz : cs.size = 257) (h256 : cs[256]? = some v) (hge : base ≤ p) (hown : W.ownsRow base 9 1 v (d.length + 1) ((d.map fun x => .string (M [x.1])) ++ [.string (M [ch])]))
  (hent : ∀ c : UInt8, EntAt W cs c (d.lookup c)) (hlk : d.lookup ch = none) (cap : Nat) :
  TbAt ((Lib.bytesWorld W 5 (M vv)).setCell ⟨p, ch.toNat, none⟩ (.slice (some ⟨W.heap.size, 0, none⟩) vv.length cap)) base p (d ++ [(ch, vv)]) ∧ Below p W ((Lib.bytesWorld W 5 (M vv)).setCell ⟨p, ch.toNat, none⟩ (.slice (some ⟨W.heap.size, 0, none⟩) vv.length cap)) := by
 have hb := bw_below W (M vv)
 have hp1 := hp.below hb hp.lt
 have hlt := ch.toNat_lt
 refine ⟨⟨hge, v, _, hp1.set ch.toNat _, by rw [Array.size_setIfInBounds]; exact hsz, by rw [Array.getElem?_setIfInBounds_ne (by omega)]; exact h256, ?_, fun c => ?_⟩, (hb.mono (Nat.le_of_lt hp.lt)).setCell (p := ⟨p, ch.toNat, none⟩) (Nat.le_refl _) _⟩
 ·rw [List.length_append, List.map_append]
  refine own_move (hown.kept (grown_of_below hb none) (by cases v.ownBlock <;> simp)) fun k hk => Below.heap_setCell _ _ _ _ ?_
  obtain ⟨cs', hc'⟩ := own_typed hown k hk
  exact ne_of_type hc' hp (by decide)
 ·by_cases e : c = ch
  ·subst e
   rw [List.lookup_append, hlk]
   simp only [List.lookup_cons, beq_self_eq_true, Option.none_or]
   refine ⟨W.heap.size, cap, by rw [Array.getElem?_setIfInBounds_self, if_pos (by omega)], ?_⟩
   obtain ⟨ds, z, h1, h2, h3⟩ := BytesAt.new W (M vv)
   exact ⟨ds, z, (Below.heap_setCell _ _ _ _ (by have := hp.lt; show W.heap.size ≠ p; omega)).trans h1, h2, h3⟩
  ·have hne : c.toNat ≠ ch.toNat := fun h => e (UInt8.toNat_inj.1 h)
   rw [List.lookup_append]
   have : ([(ch, vv)] : Tb).lookup c = none := by rw [List.lookup_cons, (beq_eq_false_iff_ne).2 e]; rfl
   rw [this, Option.or_none]
   have hm := hent c
   cases hl : d.lookup c with
   | none =>
     rw [hl] at hm
     show (cs.setIfInBounds ch.toNat _)[c.toNat]? = _
     rw [Array.getElem?_setIfInBounds_ne (fun h => hne h.symm)]
     exact hm
   | some u =>
     rw [hl] at hm
     obtain ⟨q, cp, h1, ds, z, h2, h3, h4⟩ := hm
     refine ⟨q, cp, by rw [Array.getElem?_setIfInBounds_ne (fun h => hne h.symm)]; exact h1, ds, z, ?_, h3, h4⟩
     have hq := (hb.block q (Array.getElem?_eq_some_iff.1 h2).1).trans h2
     exact (Below.heap_setCell _ _ _ _ (show q ≠ p from ne_of_type hq hp1 (by decide))).trans hq
theorem lookup_rest {tb : Tb} (h : (tb.map (·.1)).Nodup) {q : Nat} (hq : q < tb.length) : ((tb.drop (q + 1)).reverse).lookup tb[q].1 = none := by
 cases hx : ((tb.drop (q + 1)).reverse).lookup tb[q].1 with
 | none => rfl
 | some v =>
   exfalso
   have hm := List.mem_reverse.1 (lookup_mem _ _ _ hx)
   rw [← List.take_append_drop q tb, List.map_append, List.drop_eq_getElem_cons hq, List.map_cons] at h
   have h2 := (List.nodup_append.1 h).2.1
   exact (List.nodup_cons.1 h2).1 (List.mem_map.2 ⟨_, hm, rfl⟩)
set_option maxRecDepth 100000 in
set_option maxHeartbeats 4000000 in
theorem tbuild_calls (tb : Tb) (hok : tb.Ok) (h2 : ∀ p ∈ tb, 2 ≤ p.2.length) (hmk : ∀ W, (Instr.makeSlice 86 (.int .i64 0) (.int .i64 (tb.length : Int))).run Tryz.prog W = .ok (.slice (some ⟨W.heap.size, 0, none⟩) 0 tb.length) (W.alloc (.cells (Array.replicate tb.length (.string ⟨#[]⟩)) 9)))
  (h4 : 2 ≤ tb.length) (b g c : Nat) (v0 v1 v2 v3 : Value) (w : World) (h5 : Five w b v0 v1 v2 v3 (.slice (some ⟨g, 0, none⟩) (tbFlat tb).length c)) (hr : StrRow w g (tbFlat tb)) (hg : g < w.heap.size) :
  Calls Tryz.prog 121 #[.pointer (some ⟨b, 0, none⟩)] w fun e w' => ∃ p, e = .returned (.iface 198 (.pointer (some ⟨p, 0, none⟩))) ∧ Below w.heap.size w w' ∧ w.heap.size ≤ p ∧ TbAt w' w.heap.size p tb.reverse := by
 have hu247 := Tryz.underlying131
 have c4 : w.cell? ⟨b, 4, none⟩ = some (.slice (some ⟨g, 0, none⟩) (tbFlat tb).length c) := (h5.cell 4).trans rfl
 obtain ⟨n, hn⟩ : ∃ n, n = (tbFlat tb).length := ⟨_, rfl⟩
 rw [← hn] at c4
 have hn2 : n = 2 * tb.length := by rw [hn, flat_len]
 have h10 := hok.few
 have hlen2 : ¬ (n : Int) = 2 := by omega
 have HR := Lib.hid hr
 have HO := Lib.hid (And.intro hok h2)
 clear hr hok h2 h5 hn
 go_enter Tryz.func121, Tryz.ntmps121
 go_wp2_with fail
 go_loopw [5, 4] (fun v5 v4 wr => ∃ (m k : Nat), v5 = .int .i64 k ∧ v4 = .bool (m == 0) ∧ wr = w ∧ m ≤ tb.length ∧ Aside0 (k = 2 * m)) (fun v5 _ _ => n - (intOf v5).toNat)
 case atStart => exact ⟨0, 0, rfl, rfl, rfl, by omega, ⟨rfl⟩⟩
 case round =>
  obtain ⟨m, k, rfl, rfl, hwr, hm, HK⟩ := hrel
  subst wr
  by_cases hlt : m < tb.length
  ·obtain ⟨r0, r1⟩ := row_two HR.out m hlt
   rw [← HK.out] at r0 r1
   have hv : ¬ (tb[m].2.length : Int) = 1 := by
    have := HO.out.2 tb[m] (List.getElem_mem hlt)
    omega
   have hkn : k < n := by have := HK.out; omega
   have hk1 : k + 1 < n := by have := HK.out; omega
   have hkn' : (k : Int) < (n : Int) := by omega
   have hk1' : ((k + 1 : Nat) : Int) < (n : Int) := by omega
   have hw : IntKind.i64.wrap ((k : Int) + 1) = ((k + 1 : Nat) : Int) := IntWalk.i64_in _ (by omega)
   go_wp2_with fail
   go_roundw
   case rel => exact ⟨m + 1, k + 2, by go_num, by simp, trivial, by omega, ⟨by have := HK.out; omega⟩⟩
   case measure => simp [intOf]; omega
  ·have hmn : m = tb.length := by omega
   have hm0 : (m == 0) = false := beq_eq_false_iff_ne.2 (by omega)
   have hkn : ¬ (k : Int) < (n : Int) := by have := HK.out; omega
   have hmk0 := hmk w
   have hst := rep_store (w.alloc (.cells (Array.replicate tb.length (.string ⟨#[]⟩)) 9)) w.heap.size tb.length
   rw [World.size_alloc] at hst
   have HT0 := Lib.hid (tb_new w tb.length h10)
   have HB0 := Lib.hid (((Below.refl w.heap.size w).alloc (Nat.le_refl _) (.cells (Array.replicate tb.length (.string ⟨#[]⟩)) 9)).alloc (by rw [World.size_alloc]; omega) (.cells (repC (.slice (some ⟨w.heap.size, 0, none⟩) 0 tb.length)) 197))
   go_wp2_with fail
   clear hst hmk0 hmk c4
   generalize ((w.alloc (.cells (Array.replicate tb.length (.string ⟨#[]⟩)) 9)).alloc (.cells (repC (.slice (some ⟨w.heap.size, 0, none⟩) 0 tb.length)) 197)) = W0 at *
   go_loopw [12] (fun v12 wr => ∃ (r : Nat) (z : Int), v12 = .int .i64 z ∧ Aside0 (z = 2 * r - 2 ∧ r ≤ tb.length) ∧ Aside0 (TbAt wr w.heap.size (w.heap.size + 1) ((tb.drop r).reverse) ∧ Below w.heap.size w wr)) (fun v12 _ => (intOf v12 + 2).toNat)
   case atStart => exact ⟨tb.length, _, rfl, ⟨by omega, by omega⟩, ⟨by simpa using HT0.out, HB0.out⟩⟩
   case round =>
    obtain ⟨r, z, rfl, HZ, HB⟩ := hrel
    cases r with
    | zero =>
      have hz : ¬ (0 : Int) ≤ z := by have := HZ.out.1; omega
      have HF := Lib.hid HB.out
      clear HB
      go_wp2
      go_ret
      exact ⟨_, rfl, HF.out.2, by show w.heap.size ≤ w.heap.size + 1; omega, by simpa using HF.out.1⟩
    | succ q =>
      have hq : q < tb.length := by have := HZ.out.2; omega
      obtain ⟨kk, hkk⟩ : ∃ kk : Nat, kk = 2 * q := ⟨_, rfl⟩
      obtain rfl : z = (kk : Int) := by have := HZ.out.1; omega
      obtain ⟨v, cs, hp, hsz, h256, hown, hent⟩ := HB.out.1.at_
      obtain ⟨r0, r1⟩ := row_two (HR.out.below HB.out.2 hg) q hq
      rw [← hkk] at r0 r1
      obtain ⟨d, hd⟩ : ∃ d, d = (tb.drop (q + 1)).reverse := ⟨_, rfl⟩
      obtain ⟨ch, hch⟩ : ∃ ch, ch = tb[q].1 := ⟨_, rfl⟩
      obtain ⟨vv, hvv⟩ : ∃ vv, vv = tb[q].2 := ⟨_, rfl⟩
      have hdn : d ++ [(ch, vv)] = (tb.drop q).reverse := by
       rw [List.drop_eq_getElem_cons hq, List.reverse_cons, ← hd, hch, hvv]
      have hlk : d.lookup ch = none := by
       rw [hd, hch]
       exact lookup_rest HO.out.1.keys hq
      have hv2 := HO.out.2 tb[q] (List.getElem_mem hq)
      have hv10 := (HO.out.1.some tb[q] (List.getElem_mem hq)).2
      rw [← hd] at hown hent
      rw [← hch] at r0
      rw [← hvv] at r1 hv2 hv10
      have hent0 := hent ch
      rw [hlk] at hent0
      have hent0 : cs[ch.toNat]? = some (.slice none 0 0) := hent0
      obtain ⟨vA, vc, rfl⟩ : ∃ vA vc, v = .slice vA d.length vc := by
       rcases hown.2 with ⟨hv, hn⟩ | ⟨g, cap, cur, hv, _⟩
       ·rw [hn]; exact ⟨_, _, hv⟩
       ·exact ⟨_, _, hv⟩
      have t1 : wr.cell? ⟨w.heap.size + 1, ch.toNat, none⟩ = some (.slice none 0 0) := (hp.cell _).trans hent0
      have t2 : wr.cell? ⟨w.heap.size + 1, 256, none⟩ = some (.slice vA d.length vc) := (hp.cell _).trans h256
      have hch256 : (ch.toNat : Int) < 256 := by have := ch.toNat_lt; omega
      have y0 : ((M [ch])[0]'(by show 0 < 1; decide)).toNat = ch.toNat := rfl
      have kc1 := conv73 wr ch
      have hq73 := eq73
      obtain ⟨i0, hi0, hz0, hs0, hby0⟩ := info9
      have hone : ∀ u ∈ ([.string (M [ch])] : List Value), u.oneCell' = true := by simp [Value.oneCell']
      have hnb : ∀ k, (Value.slice vA d.length vc).ownBlock = some k → k ≠ w.heap.size + 1 := fun k hk => by
       obtain ⟨cs', hc'⟩ := own_typed hown k hk
       exact ne_of_type hc' hp (by decide)
      have HO1 := Lib.hid hown
      have hpl := hp.lt
      have hdl : d.length ≤ 10 := by
       rw [hd, List.length_reverse, List.length_drop]
       omega
      have HP := Lib.hid (And.intro hp (And.intro hsz (And.intro hent (And.intro hnb (And.intro hdn hlk)))))
      have hba : Below wr.heap.size wr ((wr.alloc (.cells #[.int .u8 (ch.toNat : Int)] 5)).alloc (.cells #[.string (M [ch])] 9)) := ((Below.refl _ _).alloc (Nat.le_refl _) _).alloc (by rw [World.size_alloc]; omega) _
      have hnews := World.alloc_heap_new (wr.alloc (.cells #[.int .u8 (ch.toNat : Int)] 5)) (.cells #[.string (M [ch])] 9)
      rw [World.size_alloc] at hnews
      have HBA := Lib.hid (And.intro hba hnews)
      have hkn : kk < 2 * tb.length := by omega
      have hk1n : kk + 1 < 2 * tb.length := by omega
      have HKK := Lib.hid hkk
      clear hp hsz hent hnb hown h256 hent0 hdn hlk hd hch hvv hba hnews hkk
      go_upto_region 34 with (at_builtin; refine wpList_append_lies _ rfl (.tmp 119) (.tmp 123) 86 rfl w.heap.size 9 i0 (.string ⟨#[]⟩) 1 16 Tryz.underlying86 hi0 hz0 hs0 hby0 rfl (by decide) (.slice vA d.length vc) d.length (d.map fun x => .string (M [x.1])) rfl ((HO1.out.alloc _).alloc _) ⟨wr.heap.size + 1, 0, none⟩ 1 1 [.string (M [ch])] rfl rfl (World.news_of_block HBA.out.2) hone (by decide) (by unfold maxLen; omega) (by omega) (by simp; omega) _ rfl ?_; intro g' cap w1 hown1 hgrow hat hlt1; have hk : Blk w1 (w.heap.size + 1) cs 197 := (hgrow.block _ (Nat.lt_of_lt_of_le hpl HBA.out.1.size) (fun e => HP.out.2.2.2.1 _ e.symm rfl)).trans (HP.out.1.below HBA.out.1 hpl); have hc1 : w1.cell? ⟨w.heap.size + 1, 256, none⟩ = some (.slice vA d.length vc) := (hk.cell _).trans ((HP.out.1.cell _).symm.trans t2); have hf1 := hk.frozen 256; have HS := Lib.hid (And.intro hown1 (And.intro hgrow hk)); clear hown1 hgrow hat hlt1 hk)
      obtain ⟨hown1, hgrow, hk1⟩ := HS.out
      obtain ⟨hp, hsz, hent, hnb, hdn, hlk⟩ := HP.out
      have hW3 : Below w.heap.size w (w1.setCell ⟨w.heap.size + 1, 256, none⟩ (.slice (some ⟨g', 0, none⟩) (d.length + 1) cap)) := by
       have h1 : Below w.heap.size ((wr.alloc (.cells #[.int .u8 (ch.toNat : Int)] 5)).alloc (.cells #[.string (M [ch])] 9)) w1 := ⟨hgrow.os, hgrow.tape, hgrow.output, hgrow.size, fun k hk => by
        have hl := HB.out.2.size
        have hl2 := HBA.out.1.size
        exact hgrow.block k (by omega) fun e => by
         have := (HO1.out.lt k e.symm).1
         omega⟩
       exact ((HB.out.2.trans (HBA.out.1.mono HB.out.2.size)).trans h1).setCell (p := ⟨w.heap.size + 1, 256, none⟩) (by show w.heap.size ≤ w.heap.size + 1; omega) _
      have tD := hk1.set 256 (.slice (some ⟨g', 0, none⟩) (d.length + 1) cap)
      have rD : (w1.setCell ⟨w.heap.size + 1, 256, none⟩ (.slice (some ⟨g', 0, none⟩) (d.length + 1) cap)).ownsRow w.heap.size 9 1 (.slice (some ⟨g', 0, none⟩) (d.length + 1) cap) (d.length + 1) ((d.map fun x => .string (M [x.1])) ++ [.string (M [ch])]) := own_move hown1 fun k hk => Below.heap_setCell _ _ _ _ (by
       obtain ⟨cs', hc'⟩ := own_typed hown1 k hk
       exact ne_of_type hc' hk1 (by decide))
      have eD : ∀ x : UInt8, EntAt (w1.setCell ⟨w.heap.size + 1, 256, none⟩ (.slice (some ⟨g', 0, none⟩) (d.length + 1) cap)) (cs.setIfInBounds 256 (.slice (some ⟨g', 0, none⟩) (d.length + 1) cap)) x (d.lookup x) := fun x => by
       refine EntAt.move (hent x) (fun i hi => by rw [Array.getElem?_setIfInBounds_ne (by omega)]) fun k cs' z hk => ?_
       have hkl := (Array.getElem?_eq_some_iff.1 hk).1
       have h1 := (HBA.out.1.block k hkl).trans hk
       have h2 := (hgrow.block k (Nat.lt_of_lt_of_le hkl HBA.out.1.size) fun e => by
        obtain ⟨cs2, hc2⟩ := own_typed HO1.out k e.symm
        exact ne_of_type hk hc2 (by decide) rfl).trans h1
       exact (Below.heap_setCell _ _ _ _ (show k ≠ w.heap.size + 1 from ne_of_type h2 hk1 (by decide))).trans h2
      have hs' : (cs.setIfInBounds 256 (.slice (some ⟨g', 0, none⟩) (d.length + 1) cap)).size = 257 := by rw [Array.size_setIfInBounds]; exact hsz
      have h2' : (cs.setIfInBounds 256 (.slice (some ⟨g', 0, none⟩) (d.length + 1) cap))[256]? = some (.slice (some ⟨g', 0, none⟩) (d.length + 1) cap) := by rw [Array.getElem?_setIfInBounds_self, if_pos (by omega)]
      have HD := Lib.hid (And.intro hW3 (And.intro tD (And.intro rD (And.intro eD (And.intro hs' (And.intro h2' (And.intro hlk hdn)))))))
      clear hown1 hgrow hk1 hp hsz hent hnb hdn hlk hW3 tD rD eD hs' h2' HS HP HBA HO1 hc1 hf1 t1 t2 kc1
      generalize w1.setCell ⟨w.heap.size + 1, 256, none⟩ (.slice (some ⟨g', 0, none⟩) (d.length + 1) cap) = W3 at *
      have kc := Lib.run_convert_string_bytes (P := Tryz.prog) W3 9 42 5 (M vv) Tryz.underlying9 Tryz.underlying42 Tryz.underlying5
      obtain ⟨hst, hbe⟩ := tb_step HD.out.2.1 HD.out.2.2.2.2.1 HD.out.2.2.2.2.2.1 (show w.heap.size ≤ w.heap.size + 1 by omega) HD.out.2.2.1 HD.out.2.2.2.1 HD.out.2.2.2.2.2.2.1 (grownCap W3 vv.length 0 5)
      rw [HD.out.2.2.2.2.2.2.2] at hst
      have hbw : Below W3.heap.size W3 (Lib.bytesWorld W3 5 (M vv)) := bw_below W3 _
      have hpl3 := HD.out.2.1.lt
      have m0 : (Lib.bytesWorld W3 5 (M vv)).cell? ⟨w.heap.size + 1, ch.toNat, none⟩ = some (.slice none 0 0) := ((HD.out.2.1.below hbw hpl3).cell _).trans (by
       have := HD.out.2.2.2.1 ch
       rw [HD.out.2.2.2.2.2.2.1] at this
       exact this)
      have m1 := (HD.out.2.1.below hbw hpl3).frozen ch.toNat
      have HF := Aside0.mk (And.intro hst (HD.out.1.trans (hbe.mono (by omega))))
      have hkz := HKK.out
      clear hst hbe hbw hpl3 hpl HB HD hkz
      go_wp2_with fail
      go_roundw
      case rel => exact ⟨q, _, rfl, ⟨by have := HKK.out; omega, by omega⟩, HF⟩
      case measure => simp [intOf]; omega
end Go.Proofs.YtadgeghipimfiaaGreatDoor.X
end
section
namespace Go.Proofs.YtadgeghipimfiaaGreatDoor.X
open Go.RowKit Go.Shelf Go.Proofs.YtadgeghipimfiaaGreatDoorW.PrintWords Go.Proofs.YtadgeghipimfiaaGreatDoor.F Go.Proofs.YtadgeghipimfiaaGreatDoor.Pg
set_option linter.unusedVariables false
set_option linter.unusedSimpArgs false
structure Wk (base b : Nat) (w w' : World) : Prop where
 below : Below base w w'
 kept : Lib.OthersKept 5 (some b) w w'
theorem Wk.refl (base b : Nat) (w : World) : Wk base b w w := ⟨Below.refl _ _, Lib.OthersKept.refl _ _ _⟩
theorem Wk.trans {base b : Nat} {u v w : World} (h : Wk base b u v) (k : Wk base b v w) : Wk base b u w := ⟨h.below.trans k.below, h.kept.trans k.kept⟩
theorem Wk.of {base b : Nat} {w w' : World} (h : Below w.heap.size w w') (hb : base ≤ w.heap.size) : Wk base b w w' := ⟨h.mono hb, fun k o hk _ _ => by
 have hlt : k < w.heap.size := (Array.getElem?_eq_some_iff.1 hk).1
 exact (h.block k hlt).trans hk⟩
theorem Wk.size {base b : Nat} {w w' : World} (h : Wk base b w w') : w.heap.size ≤ w'.heap.size := h.below.size
theorem Wk.blk {base b : Nat} {w w' : World} (h : Wk base b w w') {k : Nat} {cs : Array Value} {t : TypeId} (hk : Blk w k cs t) (hkb : k ≠ b) (ht : t ≠ 5) : Blk w' k cs t :=
 h.kept k _ hk (fun e => hkb (Option.some.inj e)) (fun c fz e => by injection e with _ e _; exact ht e)
theorem Wk.row {base b : Nat} {w w' : World} (h : Wk base b w w') {g : Nat} {l : List Bs} {cs : Array Value} (hr : StrRow w g l) (hk : Blk w g cs 9) (hgb : g ≠ b) : StrRow w' g l := hr.same ((h.blk hk hgb (by decide)).trans hk.symm)
structure Wr (W : World) (base b : Nat) (l : Bs) : Prop where
 ge : base ≤ b
 at_ : ∃ p v, (p = .pointer none ∨ p = .pointer (some ⟨b, 0, none⟩)) ∧ Blk W b #[p, v] 46 ∧ W.ownsRow base 5 1 v l.length (Lib.byteCells l)
theorem Wr.lt {W : World} {base b : Nat} {l : Bs} (h : Wr W base b l) : b < W.heap.size := by
 obtain ⟨p, v, _, hb, _⟩ := h.at_
 exact hb.lt
theorem Wr.le {W : World} {base b : Nat} {l : Bs} (h : Wr W base b l) : base ≤ W.heap.size := Nat.le_trans h.ge (Nat.le_of_lt h.lt)
theorem Wr.below {W W' : World} {base b : Nat} {l : Bs} (h : Wr W base b l) (hb : Below W.heap.size W W') : Wr W' base b l := by
 obtain ⟨p, v, hp, hk, hr⟩ := h.at_
 exact ⟨h.ge, p, v, hp, hk.below hb hk.lt, hr.kept (grown_of_below hb none) (by cases v.ownBlock <;> simp)⟩
theorem Wr.new (W : World) : Wr (W.alloc (.cells #[.pointer none, .slice none 0 0] 46)) W.heap.size W.heap.size [] :=
 ⟨Nat.le_refl _, _, _, .inl rfl, Blk.new _ _ _, by
   refine ⟨rfl, .inl ⟨rfl, rfl⟩⟩⟩
theorem Wr.ne {W : World} {base b k : Nat} {l : Bs} (h : Wr W base b l) {cs : Array Value} {t : TypeId} (hk : Blk W k cs t) (ht : t ≠ 46) : k ≠ b := by
 obtain ⟨p, v, _, hb, _⟩ := h.at_
 rintro rfl
 exact ht (hk.eq hb).2
theorem info44 : ∃ j, Tryz.prog.info? 44 = some j ∧ j.size = 2 := by
 have h : (Tryz.prog.info? 44).map (fun i => i.size) = some 2 := by kernel_rfl
 cases hi : Tryz.prog.info? 44 with
 | none => rw [hi] at h; cases h
 | some i => rw [hi] at h; simp at h; exact ⟨i, rfl, h⟩
set_option maxRecDepth 100000 in
set_option maxHeartbeats 1000000 in
theorem copy_fresh (b : Nat) (v : Value) (w : World) (hb : Blk w b #[.pointer none, v] 46) :
  Calls Tryz.prog 79 #[.pointer (some ⟨b, 0, none⟩)] w fun e w' => e = .returned (.tuple #[]) ∧ w' = w.setCell ⟨b, 0, none⟩ (.pointer (some ⟨b, 0, none⟩)) := by
 obtain ⟨j, hj, hjs⟩ := info44
 have c0 : w.cell? ⟨b, 0, none⟩ = some (.pointer none) := hb.cell 0
 have f0 := hb.frozen 0
 have hsh : w.shape? b = some (46, 2) := by unfold World.shape?; rw [show w.heap[b]? = _ from hb]; rfl
 clear hb
 have hto := Lib.run_to_unsafe (P := Tryz.prog) (src := 41) (dst := 167) w ⟨b, 0, none⟩ Tryz.underlying41 Tryz.underlying167 hj (by rw [hjs]; decide) hsh (Nat.zero_lt_succ 1)
 have hfr := Lib.run_from_unsafe (P := Tryz.prog) (src := 167) (dst := 41) w ⟨b, 0, none⟩ Tryz.underlying167 Tryz.underlying41 hj hsh (by kernel_rfl)
 have hno : ∀ (x : Value) (w : World), (callFunc 118 #[x]).run Tryz.prog w = .ok (.value x) w := fun x w => by
  rw [run_callFunc_extern Tryz.func118 (by kernel_rfl) (by kernel_rfl) (by kernel_rfl) (e := Extern.AbiNoEscape.same) (by kernel_rfl), Lib.run_noEscape]
  rfl
 go_enter Tryz.func79, Tryz.ntmps79
 go_wp2
 go_end0
 exact ⟨rfl, rfl⟩
set_option maxRecDepth 100000 in
set_option maxHeartbeats 1000000 in
theorem copy_used (b : Nat) (v : Value) (w : World) (hb : Blk w b #[.pointer (some ⟨b, 0, none⟩), v] 46) :
  Calls Tryz.prog 79 #[.pointer (some ⟨b, 0, none⟩)] w fun e w' => e = .returned (.tuple #[]) ∧ w' = w := by
 have c0 : w.cell? ⟨b, 0, none⟩ = some (.pointer (some ⟨b, 0, none⟩)) := hb.cell 0
 clear hb
 obtain ⟨j, hj, hjs⟩ := info44
 go_enter Tryz.func79, Tryz.ntmps79
 go_wp2
 rw [Lib.run_neq_ptr_same w _ Tryz.underlying41 hj]
 go_wp2
 go_end0
 exact ⟨rfl, rfl⟩
theorem copy_calls {base b : Nat} {l : Bs} {w : World} (h : Wr w base b l) :
  Calls Tryz.prog 79 #[.pointer (some ⟨b, 0, none⟩)] w fun e w' => e = .returned (.tuple #[]) ∧ (∃ v, Blk w' b #[.pointer (some ⟨b, 0, none⟩), v] 46 ∧ w'.ownsRow base 5 1 v l.length (Lib.byteCells l)) ∧ Wk base b w w' := by
 obtain ⟨p, v, hp, hk, hr⟩ := h.at_
 rcases hp with rfl | rfl
 ·refine (copy_fresh b v w hk).mono ?_
  rintro e w' ⟨rfl, rfl⟩
  refine ⟨rfl, ⟨v, hk.set 0 _, own_move hr fun k hk' => Below.heap_setCell _ _ _ _ ?_⟩, (Below.refl base w).setCell (p := ⟨b, 0, none⟩) h.ge _, (Lib.OthersKept.refl _ _ w).setCell ⟨b, 0, none⟩ rfl _⟩
  obtain ⟨cs, hcs⟩ := own_typed hr k hk'
  exact ne_of_type hcs hk (by decide)
 ·refine (copy_used b v w hk).mono ?_
  rintro e w' ⟨rfl, rfl⟩
  exact ⟨rfl, ⟨v, hk, hr⟩, Wk.refl _ _ _⟩
theorem info5 : ∃ i, Tryz.prog.info? 5 = some i ∧ i.zero = some (.int .u8 0) ∧ i.size = 1 ∧ i.bytes = 1 := by
 have h : (Tryz.prog.info? 5).map (fun i => (i.zero, i.size, i.bytes)) = some (some (.int .u8 0), 1, 1) := by kernel_rfl
 cases hi : Tryz.prog.info? 5 with
 | none => rw [hi] at h; cases h
 | some i => rw [hi] at h; simp at h; exact ⟨i, rfl, h.1, h.2.1, h.2.2⟩
set_option maxRecDepth 100000 in
set_option maxHeartbeats 2000000 in
theorem wwrite_calls {base b : Nat} {l s : Bs} {w : World} (h : Wr w base b l) (hlen : l.length + s.length ≤ 140737488355328) :
  Calls Tryz.prog 45 #[.pointer (some ⟨b, 0, none⟩), .string (M s)] w fun e w' => e = .returned (.tuple #[.int .i64 s.length, .nilIface]) ∧ Wr w' base b (l ++ s) ∧ Wk base b w w' := by
 have H := Lib.hid h
 have hle := h.le
 have hge := h.ge
 obtain ⟨i0, hi, hz0, hz1, hz2⟩ := info5
 clear h
 go_enter Tryz.func45, Tryz.ntmps45
 go_wp2_with fail
 refine (copy_calls H.out).mono ?_
 rintro e w1 ⟨rfl, ⟨v, hk, hr⟩, hw⟩
 have c0 : w1.cell? ⟨b, 0, none⟩ = some (.pointer (some ⟨b, 0, none⟩)) := hk.cell 0
 have c1 : w1.cell? ⟨b, 1, none⟩ = some v := hk.cell 1
 have hsz := hw.size
 have H1 := Lib.hid (And.intro hk hw)
 clear hk hw H
 go_wp2_with (at_builtin; refine Lib.wpList_append_own_string _ rfl _ _ 42 9 rfl base 5 i0 Tryz.underlying42 Tryz.underlying9 hi hz0 hz1 hz2 _ _ _ rfl hr (M s) rfl ?c3 ?c4 ?c5 ?_)
 case c3 => unfold maxLen; show l.length + s.length ≤ _; omega
 case c4 => exact hlen
 case c5 => omega
 intro v' w2 hown' hgrow _
 obtain ⟨hk, hw⟩ := H1.out
 have hb2 : Blk w2 b #[.pointer (some ⟨b, 0, none⟩), v] 46 := (hgrow.block b hk.lt (fun e => by
  obtain ⟨cs, hcs⟩ := own_typed hr b e.symm
  exact ne_of_type hk hcs (by decide) rfl)).trans hk
 have d0 : w2.cell? ⟨b, 0, none⟩ = some (.pointer (some ⟨b, 0, none⟩)) := hb2.cell 0
 have d1 : w2.cell? ⟨b, 1, none⟩ = some v := hb2.cell 1
 have f1 : w2.frozen? ⟨b, 1, none⟩ = false := hb2.frozen 1
 obtain ⟨ao, n', cap, rfl⟩ : ∃ ao n' cap, v' = .slice ao n' cap := by
  rcases hown'.2 with ⟨hv, _⟩ | ⟨g, cap, cur, hv, _⟩
  ·exact ⟨_, _, _, hv⟩
  ·exact ⟨_, _, _, hv⟩
 have hB : Below base w1 w2 := ⟨hgrow.os, hgrow.tape, hgrow.output, hgrow.size, fun k hk' => hgrow.block k (by omega) fun e => by
  have := (hr.lt k e.symm).1
  omega⟩
 have hO : Lib.OthersKept 5 (some b) w1 w2 := (Lib.OthersKept.refl _ _ w1).grown hgrow fun g hg => by
  obtain ⟨cs, hcs⟩ := own_typed hr g hg
  exact ⟨cs, _, hcs⟩
 have hfin : Wr (w2.setCell ⟨b, 1, none⟩ (.slice ao n' cap)) base b (l ++ s) := ⟨hge, _, _, .inr rfl, hb2.set 1 _, by
  refine own_move (show w2.ownsRow base 5 1 (.slice ao n' cap) (l ++ s).length (Lib.byteCells (l ++ s)) from ?_) fun k hk' => Below.heap_setCell _ _ _ _ ?_
  ·have e1 : Lib.byteCells (l ++ s) = Lib.byteCells l ++ Lib.strCells (M s) := by simp [Lib.byteCells, Lib.strCells]
   rw [List.length_append, e1]
   exact hown'
  ·obtain ⟨cs, hcs⟩ := own_typed hown' k hk'
   exact ne_of_type hcs hb2 (by decide)⟩
 have hW : Wk base b w (w2.setCell ⟨b, 1, none⟩ (.slice ao n' cap)) := ⟨(hw.below.trans hB).setCell (p := ⟨b, 1, none⟩) hge _, (hw.kept.trans hO).setCell ⟨b, 1, none⟩ rfl _⟩
 have HF := Lib.hid (And.intro hfin hW)
 clear hfin hW hB hO hb2 hown' hgrow hk hw hr H1
 go_wp2
 go_ret2
 exact ⟨rfl, HF.out.1, HF.out.2⟩
set_option maxRecDepth 100000 in
set_option maxHeartbeats 1000000 in
theorem wlen_calls {base b : Nat} {l : Bs} {w : World} (h : Wr w base b l) :
  Calls Tryz.prog 14 #[.pointer (some ⟨b, 0, none⟩)] w fun e w' => e = .returned (.int .i64 l.length) ∧ w = w' := by
 obtain ⟨p, v, hp, hk, hr⟩ := h.at_
 obtain ⟨ao, cap, rfl⟩ : ∃ ao cap, v = .slice ao l.length cap := by
  rcases hr.2 with ⟨hv, hn⟩ | ⟨g, cap, cur, hv, _⟩
  ·rw [hn]; exact ⟨_, _, hv⟩
  ·exact ⟨_, _, hv⟩
 have c1 : w.cell? ⟨b, 1, none⟩ = some (.slice ao l.length cap) := hk.cell 1
 clear hk hr h hp
 go_enter Tryz.func14, Tryz.ntmps14
 go_wp2
 go_ret
 exact ⟨rfl, rfl⟩
set_option maxRecDepth 100000 in
set_option maxHeartbeats 2000000 in
theorem wstring_calls {base b : Nat} {l : Bs} {w : World} (h : Wr w base b l) (h0 : l ≠ []) :
  Calls Tryz.prog 15 #[.pointer (some ⟨b, 0, none⟩)] w fun e w' => e = .returned (.string (M l)) ∧ Below base w w' := by
 obtain ⟨p, v, hp, hk, hown⟩ := h.at_
 have hl0 : l.length ≠ 0 := by simpa using h0
 obtain ⟨g, cap, cur, rfl, hbg, hg, hnc, hcm, hcs, htake⟩ : ∃ g cap cur, v = .slice (some ⟨g, 0, none⟩) l.length cap ∧ base ≤ g ∧ w.heap[g]? = some (.cells cur 5 (0, 0)) ∧ l.length ≤ cap ∧ cap ≤ maxLen ∧ cur.size = cap * 1 ∧ cur.toList.take (l.length * 1) = Lib.byteCells l := by
  rcases hown.2 with ⟨_, hz⟩ | ⟨g, cap, cur, hv, r⟩
  ·exact absurd hz hl0
  ·exact ⟨g, cap, cur, hv, r⟩
 have c1 : w.drew.cell? ⟨b, 1, none⟩ = some (.slice (some ⟨g, 0, none⟩) l.length cap) := hk.cell 1
 have hSD : (Builtin.unsafeSliceData_ #[42] 70 #[.slice (some ⟨g, 0, none⟩) l.length cap]).run Tryz.prog w.drew = .ok (.pointer (some ⟨g, 0, none⟩)) w.drew :=
  Lib.run_unsafeSliceData_row _ _ _ _ _ _ (by omega)
 have hUS : (Builtin.unsafeString_ #[70, 3] 9 #[.pointer (some ⟨g, 0, none⟩), .int .i64 l.length]).run Tryz.prog w.drew = .ok (.string (M l)) (w.drew.freeze ⟨g, 0, none⟩ l.length) := by
  refine Lib.run_unsafeString_row w.drew 70 3 9 5 Tryz.underlying70 (by kernel_rfl) g cur.size (by have hg' : w.drew.heap[g]? = some (.cells cur 5 (0, 0)) := hg; simp [World.shape?, hg']) l h0 (by omega) (by unfold maxLen at hcm; omega) ?_
  intro j x hx
  have := hown.cellAt j (by rw [List.getElem?_eq_some_iff] at hx; obtain ⟨h, _⟩ := hx; simpa using h)
  have h2 : (Lib.byteCells l)[j]? = some (.int .u8 x.toNat) := by simp [Lib.byteCells, hx]
  rw [h2] at this
  have e : Addr.add ⟨g, 0, none⟩ j = ⟨g, j, none⟩ := by
   unfold Addr.add
   by_cases hj : j = 0
   ·rw [if_pos hj, hj]
   ·rw [if_neg hj, Nat.zero_add]
  rw [e]
  exact this
 have hB : Below base w (w.drew.freeze ⟨g, 0, none⟩ l.length) := Lib.below_freeze (Below.drew (Below.refl base w)) (p := ⟨g, 0, none⟩) hbg _
 clear h hp hk hown hg hcs htake
 go_enter Tryz.func15, Tryz.ntmps15
 go_wp2
 go_region
 all_goals (go_wp2; go_ret; exact ⟨rfl, hB⟩)
end Go.Proofs.YtadgeghipimfiaaGreatDoor.X
end
