/- etag.inner and etag.tag, by hand: the tag at a text's head. -/
import Derived.Test.YtodhbldnmepmaaaDoorXCommas
import Derived.Lib.ConvBytes
import Derived.Laws.BytesArg
import Derived.Deep.RegionWith
import Derived.RegionTactic
import Derived.ChangeAlike
import Derived.Deep.QuietTactic
namespace Go.Proofs.YtodhbldnmepmaaaDoor.X
open Go.RowKit Go.Shelf Go.Proofs.YtodhbldnmepmaaaDoorW.PrintWords

attribute [local go_sem] Oper.semAt_some

def innerB (l : List UInt8) : Bool := l.all fun c => !(decide (c ≤ 32) || c == 34 || c == 127)

theorem inner_step (l : List UInt8) (i : Nat) (h : i < l.length) : innerB (l.drop i) = (!(decide (((l.getD i 0).toNat : Int) ≤ 32) || (((l.getD i 0).toNat : Int) == 34) || (((l.getD i 0).toNat : Int) == 127)) && innerB (l.drop (i + 1))) := by
  rw [List.drop_eq_getElem_cons h, List.getD_eq_getElem?_getD, List.getElem?_eq_getElem h, Option.getD_some]
  unfold innerB
  rw [List.all_cons]
  generalize l[i] = c
  congr 2
  have e0 : decide (c ≤ 32) = decide ((c.toNat : Int) ≤ 32) := by rw [decide_eq_decide, UInt8.le_iff_toNat_le]; exact ⟨fun h => by have : (32 : UInt8).toNat = 32 := rfl; omega, fun h => by have : (32 : UInt8).toNat = 32 := rfl; omega⟩
  have e1 : ∀ d : UInt8, (c == d) = ((c.toNat : Int) == (d.toNat : Int)) := fun d => by
    rw [Bool.eq_iff_iff, beq_iff_eq, beq_iff_eq]
    exact ⟨fun h => by rw [h], fun h => UInt8.toNat_inj.1 (by omega)⟩
  rw [e0, e1 34, e1 127]
  rfl
set_option maxHeartbeats 1000000 in
set_option maxRecDepth 100000 in
theorem inner_calls (s : ByteArray) (w : World) (hs : s.size ≤ 140737488355328) :
    Calls Tryd.prog 44 #[.string s] w fun e w' => e = .returned (.bool (innerB (L s))) ∧ Below w.heap.size w w' := by
  have kc := Lib.run_convert_string_bytes (P := Tryd.prog) w 9 29 5 s Tryd.underlying9 Tryd.underlying29 Tryd.underlying5
  have hcell := fun j hj => Lib.bytesWorld_cell w 5 s j hj
  have hbel : Below w.heap.size w (Lib.bytesWorld w 5 s) := ⟨rfl, rfl, rfl, by rw [Lib.bytesWorld_size]; omega, fun k hk => Lib.bytesWorld_at_old w 5 s k hk⟩
  have HBEL := Aside0.mk hbel
  clear hbel
  generalize Lib.bytesWorld w 5 s = W1 at *
  generalize grownCap w s.size 0 5 = cap at *
  go_enter Tryd.func44, Tryd.ntmps44
  go_wp2
  go_loopg [8] (s.size + 1) (fun kq v8 wr => ∃ (i : Nat), v8 = .int .i64 i ∧ wr = W1 ∧ Aside0 (innerB (L s) = innerB ((L s).drop i)) ∧ Aside0 (i + kq = s.size + 1 ∧ i ≤ s.size))
  case atStart => exact ⟨0, rfl, rfl, ⟨rfl⟩, ⟨by omega, by omega⟩⟩
  case round =>
    obtain ⟨i, rfl, rfl, HE, HK⟩ := hrel
    cases gk with
    | zero => exact absurd HK.out (by omega)
    | succ k1 =>
      by_cases hi : i < s.size
      · have hc := hcell i hi
        have hst := inner_step (L s) i hi
        change wr.cell? _ = some (Value.int .u8 (((L s).getD i 0).toNat : Int)) at hc
        clear hcell kc
        generalize (L s).getD i 0 = c at hc hst
        generalize (c.toNat : Int) = d at hc hst
        have hlt : decide ((i : Int) < (s.size : Int)) = true := decide_eq_true (by omega)
        have HS := Aside0.mk (show wrap64 ((i : Int) + 1) = ((i + 1 : Nat) : Int) by unfold wrap64; omega)
        have HST := Aside0.mk hst
        clear hst
        have HEND := Aside0.mk (fun (h : (decide (d ≤ 32) || d == 34 || d == 127) = true) => (show false = innerB (L s) from by rw [HE.out, HST.out, h]; rfl))
        have HGO := Aside0.mk (fun (h : (decide (d ≤ 32) || d == 34 || d == 127) = false) => (show innerB (L s) = innerB ((L s).drop (i + 1)) from by rw [HE.out, HST.out, h]; rfl))
        clear hlt
        have hlt : decide ((i : Int) < (s.size : Int)) = true := decide_eq_true (by omega)
        go_wp2
        · rename_i h
          go_ret
          exact ⟨by rw [← HEND.out (by simp [h])]; rfl, HBEL.out⟩
        · rename_i h
          go_ret
          exact ⟨by rw [← HEND.out (by simpa using h)]; rfl, HBEL.out⟩
        · rename_i h
          go_roundg k1
          case measure => omega
          case rel => exact ⟨i + 1, congrArg (Value.int IntKind.i64) (show (i : Int) + 1 = ((i + 1 : Nat) : Int) from rfl), rfl, ⟨HGO.out (by simpa using h)⟩, ⟨by have := HK.out; omega, by omega⟩⟩
        · rename_i h
          go_ret
          exact ⟨by rw [← HEND.out (by simp [h])]; rfl, HBEL.out⟩
      · have hlt : decide ((i : Int) < (s.size : Int)) = false := decide_eq_false (by omega)
        go_wp2
        go_ret
        exact ⟨by rw [HE.out, List.drop_eq_nil_of_le (show (L s).length ≤ i from by have : (L s).length = s.size := rfl; omega)]; rfl, HBEL.out⟩

structure Glob (w : World) : Prop where
  max : ∃ m, w.cell? ⟨2, 0, none⟩ = some (.int .i64 m)
theorem Glob.below {w w' : World} (h : Glob w) (hb : Below w.heap.size w w') : Glob w' :=
  ⟨let ⟨m, hm⟩ := h.max; ⟨m, (hb.cell (World.block_lt_of_cell? w _ hm)).trans hm⟩⟩
theorem below_drewN (w : World) (n : Nat) : Below w.heap.size w (w.drewN n) := by
  induction n with
  | zero => exact Below.refl _ _
  | succ n ih => rw [← World.drew_drewN]; exact ih.drew

/-- The tag at a text's head: weak, value, was there one, what stands behind. -/
structure TagR where
  weak : Bool
  value : List UInt8
  ok : Bool
  rest : List UInt8
def tagL (l : List UInt8) : TagR :=
  if Lib.hasPrefix (Lib.trimPrefix l [87, 47]) [34] = true then
    ⟨Lib.hasPrefix l [87, 47], (Lib.cut (Lib.trimPrefix (Lib.trimPrefix l [87, 47]) [34]) [34]).1, (Lib.cut (Lib.trimPrefix (Lib.trimPrefix l [87, 47]) [34]) [34]).2.2 && innerB (Lib.cut (Lib.trimPrefix (Lib.trimPrefix l [87, 47]) [34]) [34]).1, (Lib.cut (Lib.trimPrefix (Lib.trimPrefix l [87, 47]) [34]) [34]).2.1⟩
  else ⟨Lib.hasPrefix l [87, 47], [], false, Lib.trimPrefix l [87, 47]⟩

theorem start_set {w wr : World} {b : Nat} {t : TypeId} {u : Value} (hb : Boxed w b t u) (H : Below w.heap.size w wr) : Below w.heap.size (w.setCell ⟨b, 0, none⟩ u) wr := by
  refine ⟨H.os, H.tape, H.output, by rw [Deep.nblk_setCell]; exact H.size, fun k hk => ?_⟩
  rw [H.block k hk]
  by_cases e : k = b
  · subst e; exact hb.trans (hb.set u).symm
  · rw [Below.heap_setCell _ _ _ _ (by exact e)]

/-- A variable of two fields. -/
def Two (W : World) (n : Nat) (t : TypeId) (u v : Value) : Prop := W.heap[n]? = some (.cells #[u, v] t (0, 0))
theorem Two.new (W : World) (t : TypeId) (u v : Value) : Two (W.alloc (.cells #[u, v] t)) W.heap.size t u v := World.alloc_heap_new W _
theorem Two.lt {W : World} {n : Nat} {t : TypeId} {u v : Value} (h : Two W n t u v) : n < W.heap.size := (Array.getElem?_eq_some_iff.1 h).1
theorem Two.c0 {W : World} {n : Nat} {t : TypeId} {u v : Value} (h : Two W n t u v) : W.cell? ⟨n, 0, none⟩ = some u := by simp [World.cell?, show W.heap[n]? = _ from h]
theorem Two.c1 {W : World} {n : Nat} {t : TypeId} {u v : Value} (h : Two W n t u v) : W.cell? ⟨n, 1, none⟩ = some v := by simp [World.cell?, show W.heap[n]? = _ from h]
theorem Two.f0 {W : World} {n : Nat} {t : TypeId} {u v : Value} (h : Two W n t u v) : W.frozen? ⟨n, 0, none⟩ = false := by simp [World.frozen?, show W.heap[n]? = _ from h]
theorem Two.f1 {W : World} {n : Nat} {t : TypeId} {u v : Value} (h : Two W n t u v) : W.frozen? ⟨n, 1, none⟩ = false := by simp [World.frozen?, show W.heap[n]? = _ from h]
theorem Two.below {W W' : World} {n : Nat} {t : TypeId} {u v : Value} (h : Two W n t u v) (hb : Below W.heap.size W W') : Two W' n t u v := (hb.block n h.lt).trans h
theorem Two.box {W : World} {n b : Nat} {t : TypeId} {u v : Value} (h : Two W n t u v) (hne : n ≠ b) (x : Value) : Two (W.setCell ⟨b, 0, none⟩ x) n t u v := (Below.heap_setCell _ _ _ _ (by exact hne)).trans h
theorem Two.set0 {W : World} {n : Nat} {t : TypeId} {u v : Value} (h : Two W n t u v) (x : Value) : Two (W.setCell ⟨n, 0, none⟩ x) n t x v := by
  obtain ⟨hlt, hk⟩ := Array.getElem?_eq_some_iff.1 h
  show (W.heap.modify n _)[n]? = _
  rw [Array.getElem?_eq_getElem (by rw [Array.size_modify]; exact hlt), Array.getElem_modify_self, hk]
  rfl
theorem Two.set1 {W : World} {n : Nat} {t : TypeId} {u v : Value} (h : Two W n t u v) (x : Value) : Two (W.setCell ⟨n, 1, none⟩ x) n t u x := by
  obtain ⟨hlt, hk⟩ := Array.getElem?_eq_some_iff.1 h
  show (W.heap.modify n _)[n]? = _
  rw [Array.getElem?_eq_getElem (by rw [Array.size_modify]; exact hlt), Array.getElem_modify_self, hk]
  rfl

theorem cut_len (l p : List UInt8) : (Lib.cut l p).1.length ≤ l.length := by
  unfold Lib.cut
  split
  · rw [List.length_take]; omega
  · exact Nat.le_refl _
theorem tp_len (l p : List UInt8) : (Lib.trimPrefix l p).length ≤ l.length := by
  unfold Lib.trimPrefix
  split
  · rw [List.length_drop]; omega
  · exact Nat.le_refl _
set_option maxHeartbeats 1000000 in
set_option maxRecDepth 100000 in
theorem tag_calls (b : Nat) (s : ByteArray) (w : World) (hG : Glob w) (hGb : b ≠ 2) (hb : Boxed w b 62 (.string s)) (hs : s.size < 4294967281) :
    Calls Tryd.prog 41 #[.pointer (some ⟨b, 0, none⟩)] w fun e w' => e = .returned (.tuple #[.agg #[.bool (tagL (L s)).weak, .string (M (tagL (L s)).value)], .bool (tagL (L s)).ok]) ∧ Below w.heap.size (w.setCell ⟨b, 0, none⟩ (.string (M (tagL (L s)).rest))) w' := by
  have HB := Lib.hid hb
  have HG := Lib.hid hG
  obtain ⟨weak, hweak⟩ : ∃ x, Lib.hasPrefix (L s) [87, 47] = x := ⟨_, rfl⟩
  obtain ⟨l1, hl1⟩ : ∃ x, Lib.trimPrefix (L s) [87, 47] = x := ⟨_, rfl⟩
  have HW := Lib.hid hweak
  have HL1 := Lib.hid hl1
  clear hb hG hweak hl1
  go_enter Tryd.func41, Tryd.ntmps41
  go_wp2_with fail
  refine (take_calls b s ⟨#[87, 47]⟩ _ (HB.out.alloc _)).mono ?_
  rintro e w1 ⟨rfl, h1⟩
  rw [show Lib.hasPrefix (L s) (L ⟨#[87, 47]⟩) = weak from HW.out]
  rw [show Lib.trimPrefix (L s) (L ⟨#[87, 47]⟩) = l1 from HL1.out] at h1
  have b1 := boxed_of (HB.out.alloc _) h1
  have k1 := (Two.new w 24 (.bool false) (.string ⟨#[]⟩))
  have k1 : Two w1 w.heap.size 24 (.bool false) (.string ⟨#[]⟩) := (h1.block _ k1.lt).trans (k1.box (by have := HB.out.lt; omega) _)
  have BW1 := Aside0.mk (below_step HB.out (start_set HB.out ((Below.refl w.heap.size w).alloc (Nat.le_refl _) _)) h1)
  clear h1
  have c0 := k1.c0
  have c1 := k1.c1
  have f0 := k1.f0
  have f1 := k1.f1
  have B1 := Aside0.mk b1
  have K1 := Aside0.mk k1
  clear b1 k1
  go_wp2_with fail
  obtain ⟨q, hq⟩ : ∃ x, Lib.hasPrefix l1 [34] = x := ⟨_, rfl⟩
  obtain ⟨l2, hl2⟩ : ∃ x, Lib.trimPrefix l1 [34] = x := ⟨_, rfl⟩
  have HQ := Lib.hid hq
  have HL2 := Lib.hid hl2
  clear hq hl2
  refine (take_calls b (M l1) ⟨#[34]⟩ _ (B1.out.other (by have := HB.out.lt; omega) _)).mono ?_
  rintro e w2 ⟨rfl, h2⟩
  rw [show Lib.hasPrefix (L (M l1)) (L ⟨#[34]⟩) = q from HQ.out]
  rw [show Lib.trimPrefix (L (M l1)) (L ⟨#[34]⟩) = l2 from HL2.out] at h2
  have b2 := boxed_of (B1.out.other (by have := HB.out.lt; omega) _) h2
  have k2 := K1.out.set0 (.bool weak)
  have k2 : Two w2 w.heap.size 24 (.bool weak) (.string ⟨#[]⟩) := (h2.block _ k2.lt).trans (k2.box (by have := HB.out.lt; omega) _)
  have BW2 := Aside0.mk (below_step HB.out (BW1.out.setCell (p := ⟨w.heap.size, 0, none⟩) (Nat.le_refl _) (.bool weak)) h2)
  clear h2 c0 c1 f0 f1
  have c0 := k2.c0
  have c1 := k2.c1
  have f0 := k2.f0
  have f1 := k2.f1
  have cb := b2.cell
  have fb := b2.frozen
  have B2 := Aside0.mk b2
  have K2 := Aside0.mk k2
  clear b2 k2
  cases q with
  | false =>
    have HT := Lib.hid (show tagL (L s) = ⟨weak, [], false, l1⟩ from by unfold tagL; rw [HW.out, HL1.out, HQ.out]; rfl)
    go_wp2
    have k3 := (K2.out.set0 (.bool weak)).set1 (.string ⟨#[]⟩)
    have d0 := k3.c0
    have d1 := k3.c1
    have e12 : l2 = l1 := by have := HL2.out; unfold Lib.trimPrefix at this; rw [HQ.out] at this; exact this.symm
    refine bodyPost_ret (v := .tuple #[.agg #[.bool weak, .string ⟨#[]⟩], .bool false]) ?_ rfl ⟨?_, ?_⟩
    · simp [results, Tryd.f41, go_sem, d0, d1]
    · rw [HT.out]
    · rw [HT.out, ← e12]
      exact (BW2.out.setCell (p := ⟨w.heap.size, 0, none⟩) (Nat.le_refl _) _).setCell (p := ⟨w.heap.size, 1, none⟩) (Nat.le_refl _) _
  | true =>
    have HT := Lib.hid (show tagL (L s) = ⟨weak, (Lib.cut l2 [34]).1, (Lib.cut l2 [34]).2.2 && innerB (Lib.cut l2 [34]).1, (Lib.cut l2 [34]).2.1⟩ from by unfold tagL; rw [HW.out, HL1.out, HQ.out, HL2.out]; rfl)
    go_wp2_with fail
    obtain ⟨m, hm⟩ := HG.out.max
    have hm2 : w2.cell? ⟨2, 0, none⟩ = some (.int .i64 m) := (World.cell?_of_block (w := w) ((BW2.out.block 2 (World.block_lt_of_cell? w _ hm)).trans (Below.heap_setCell _ _ _ _ (by exact hGb.symm)))).trans hm
    have hl2 : (M l2).size < 4294967281 := by
      have e1 := tp_len (L s) [87, 47]
      have e2 := tp_len l1 [34]
      rw [HL1.out] at e1
      rw [HL2.out] at e2
      have : (L s).length = s.size := rfl
      show l2.length < 4294967281
      omega
    refine (Tryd.strings_Cut (M l2) ⟨#[34]⟩ m w2 hl2 hm2).mono ?_
    rintro e w3 ⟨rfl, nn, hw3⟩
    have h3 : Below w2.heap.size w2 w3 := by rw [hw3]; exact below_drewN w2 nn
    clear hw3 hm hm2
    obtain ⟨v, hv⟩ : ∃ x, (Lib.cut l2 [34]).1 = x := ⟨_, rfl⟩
    obtain ⟨rest, hrest⟩ : ∃ x, (Lib.cut l2 [34]).2.1 = x := ⟨_, rfl⟩
    obtain ⟨ok, hok⟩ : ∃ x, (Lib.cut l2 [34]).2.2 = x := ⟨_, rfl⟩
    rw [show (Lib.cut (M l2).data.toList (⟨#[34]⟩ : ByteArray).data.toList) = Lib.cut l2 [34] from rfl, hv, hrest, hok]
    have HT := Lib.hid (show tagL (L s) = ⟨weak, v, ok && innerB v, rest⟩ from by rw [HT.out, hv, hrest, hok])
    have hvl : v.length ≤ l2.length := by rw [← hv]; exact cut_len _ _
    have HVL := Aside0.mk (show v.length ≤ 140737488355328 from by have : l2.length < 4294967281 := hl2; omega)
    clear hv hrest hok hvl hl2
    have b3 : Boxed w3 b 62 (.string (M l2)) := (h3.block b B2.out.lt).trans B2.out
    have k3 := K2.out.below h3
    have BW3 := Aside0.mk (show Below w.heap.size (w.setCell ⟨b, 0, none⟩ (.string (M l2))) w3 from BW2.out.trans (h3.mono (by have := BW2.out.size; rw [Deep.nblk_setCell] at this; exact this)))
    clear h3 c0 c1 f0 f1 cb fb
    have c0 := k3.c0
    have c1 := k3.c1
    have f0 := k3.f0
    have f1 := k3.f1
    have cb := b3.cell
    have fb := b3.frozen
    have B3 := Aside0.mk b3
    have K3 := Aside0.mk k3
    clear b3 k3
    go_wp2_with fail
    have k4 := (K3.out.set1 (.string (M v))).box (b := b) (by have := HB.out.lt; omega) (.string (M rest))
    have bw4 := below_step HB.out (BW3.out.setCell (p := ⟨w.heap.size, 1, none⟩) (Nat.le_refl _) (.string (M v))) (Below.refl _ ((w3.setCell ⟨w.heap.size, 1, none⟩ (.string (M v))).setCell ⟨b, 0, none⟩ (.string (M rest))))
    clear c0 c1 f0 f1 cb fb
    change Code.wp Tryd.prog _ _ _ ((w3.setCell ⟨w.heap.size, 1, none⟩ (.string (M v))).setCell ⟨b, 0, none⟩ (.string (M rest)))
    generalize (w3.setCell ⟨w.heap.size, 1, none⟩ (.string (M v))).setCell ⟨b, 0, none⟩ (.string (M rest)) = w4 at *
    have c0 := k4.c0
    have c1 := k4.c1
    have f0 := k4.f0
    have f1 := k4.f1
    have K4 := Aside0.mk k4
    have BW4 := Aside0.mk bw4
    clear k4 bw4
    have hmx : Tryd.prog.follows .mixedOrders = true := by kernel_rfl
    have hls : Tryd.prog.follows .lateStores = true := by kernel_rfl
    have hlu : Tryd.prog.follows .lateStoresUnsure = true := by kernel_rfl
    cases ok with
    | false =>
      go_region
      go_wp2
      have k6 : Two (((w4.setCell ⟨w.heap.size, 0, none⟩ (.bool weak)).setCell ⟨w.heap.size, 1, none⟩ (.string (M v))).drew) w.heap.size 24 (.bool weak) (.string (M v)) := (K4.out.set0 _).set1 _
      have d0 := k6.c0
      have d1 := k6.c1
      refine bodyPost_ret (v := .tuple #[.agg #[.bool weak, .string (M v)], .bool false]) ?_ rfl ⟨?_, ?_⟩
      · simp [results, Tryd.f41, go_sem, d0, d1]
      · rw [HT.out]; rfl
      · rw [HT.out]
        exact ((BW4.out.setCell (p := ⟨w.heap.size, 0, none⟩) (Nat.le_refl _) _).setCell (p := ⟨w.heap.size, 1, none⟩) (Nat.le_refl _) _).drew
    | true =>
      have hv2 : (M v).size ≤ 140737488355328 := HVL.out
      go_region_with (go_at_call 44; refine (inner_calls (M v) _ hv2).mono ?_; rintro e w5 ⟨rfl, h5⟩; have k5 : Two w5 w.heap.size 24 (.bool weak) (.string (M v)) := (h5.block w.heap.size K4.out.lt).trans K4.out; have e0 := k5.c0; have e1 := k5.c1; have e2 := k5.f0; have e3 := k5.f1)
      all_goals go_wp2
      all_goals
        have k6 : Two ((w5.setCell ⟨w.heap.size, 0, none⟩ (.bool weak)).setCell ⟨w.heap.size, 1, none⟩ (.string (M v))) w.heap.size 24 (.bool weak) (.string (M v)) := (k5.set0 _).set1 _
        have d0 := k6.c0
        have d1 := k6.c1
        refine bodyPost_ret (v := .tuple #[.agg #[.bool weak, .string (M v)], .bool (innerB v)]) ?_ rfl ⟨?_, ?_⟩
        · simp [results, Tryd.f41, go_sem, d0, d1]
        · rw [HT.out]; rfl
        · rw [HT.out]
          exact ((BW4.out.drew.trans (h5.mono (by have := BW4.out.size; rw [Deep.nblk_setCell] at this; exact this))).setCell (p := ⟨w.heap.size, 0, none⟩) (Nat.le_refl _) _).setCell (p := ⟨w.heap.size, 1, none⟩) (Nat.le_refl _) _
end Go.Proofs.YtodhbldnmepmaaaDoor.X
