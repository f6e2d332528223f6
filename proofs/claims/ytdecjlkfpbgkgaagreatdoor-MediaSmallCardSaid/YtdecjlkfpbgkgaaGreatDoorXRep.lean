/- sync.Once's Do, not yet done, the lock free, the function any whose contract is at hand: by hand, after the kit's worked example of a lazy value. strings.NewReplacer of four texts, walked by hand. (*strings.Replacer).build of four texts, walked by hand. (*strings.byteStringReplacer).Replace at the table that build leaves, walked by hand: first, how long the new text is. (*strings.byteStringReplacer).Replace at the table that build leaves, walked by hand. strings.Replacer's Replace, and media's quote at any text, walked by hand. media.Print at any values, walked by hand. -/
import Derived.Test.YtdecjlkfpbgkgaaGreatDoorXMed
import Derived.Tactics2
import Derived.Defers
import Derived.Laws.Pointers
import Derived.Laws.LoneSync
import Derived.RegionCalls
namespace Go.Proofs.YtdecjlkfpbgkgaaGreatDoor.X
open Go.RowKit Go.Shelf Go.Proofs.YtdecjlkfpbgkgaaGreatDoorW.PrintWords Go.Proofs.YtdecjlkfpbgkgaaGreatDoor.F Go.Proofs.YtdecjlkfpbgkgaaGreatDoor.Pm
set_option linter.unusedVariables false
set_option linter.unusedSimpArgs false
theorem disable (w : World) : (callFunc 81 #[]).run Tryz.prog w = .ok (.value (.tuple #[])) w := run_call_mark0 Tryz.func81 (by kernel_rfl) (by kernel_rfl) (by kernel_rfl) .disable (by kernel_rfl) w
theorem enable (w : World) : (callFunc 83 #[]).run Tryz.prog w = .ok (.value (.tuple #[])) w := run_call_mark0 Tryz.func83 (by kernel_rfl) (by kernel_rfl) (by kernel_rfl) .enable (by kernel_rfl) w
theorem acquire (a : Addr) (w : World) : (callFunc 84 #[.pointer (some a)]).run Tryz.prog w = .ok (.value (.tuple #[])) w := run_call_marked Tryz.func84 (by kernel_rfl) (by kernel_rfl) (by kernel_rfl) .acquire (by kernel_rfl) a w
theorem releaseMerge (a : Addr) (w : World) : (callFunc 86 #[.pointer (some a)]).run Tryz.prog w = .ok (.value (.tuple #[])) w := run_call_marked Tryz.func86 (by kernel_rfl) (by kernel_rfl) (by kernel_rfl) .releaseMerge (by kernel_rfl) a w
/-- '(*sync/atomic.Bool).Store(true)', entered as a deferred call: the cell holds 1. -/
theorem store_deferred (a : Addr) (x : Value) (u : FrameMode) (w : World) (hc : w.cell? a = some x) (hz : w.frozen? a = false) :
    CallsD Tryz.prog 69 #[.pointer (some a), .bool true] u w fun e u' w' => u' = u ∧ (e = .returned (.tuple #[]) ∧ w' = w.drew.setCell a (.int .u32 1)) := by
  have hc' : w.drew.cell? a = some x := by go_simp
  have hz' : w.drew.frozen? a = false := by go_simp
  have hst := run_call_store (P := Tryz.prog) Tryz.func77 (by kernel_rfl) (by kernel_rfl) (by kernel_rfl) (by kernel_rfl) (k := .u32) (y := 1) hc' hz'
  go_enter_d Tryz.func69, Tryz.ntmps69
  go_wp2
  go_region_calls
  all_goals (go_end0; exact ⟨rfl, rfl⟩)
set_option maxRecDepth 100000 in
/-- '(*sync.Mutex).Unlock', entered as a deferred call, the lock held and nobody waiting (state 1): state 0. -/
theorem unlock_deferred (a : Addr) (u : FrameMode) (w : World) (hc : w.cell? a = some (.int .i32 1)) (hz : w.frozen? a = false) :
    CallsD Tryz.prog 68 #[.pointer (some a)] u w fun e u' w' => u' = u ∧ (e = .returned (.tuple #[]) ∧ w' = w.setCell a (.int .i32 0)) := by
  have hd := disable
  have he := enable
  have hr := releaseMerge
  have hadd := run_call_add (P := Tryz.prog) Tryz.func87 (by kernel_rfl) (by kernel_rfl) (by kernel_rfl) .i32 (by kernel_rfl) (y := -1) (s := 0) hc hz (by simp [go_sem]; rfl)
  have hcv := run_convert_to_unsafe (P := Tryz.prog) (src := 142) (dst := 79) Tryz.underlying142 Tryz.underlying79 (by kernel_rfl) hc
  go_enter_d Tryz.func68, Tryz.ntmps68
  go_wp2
  go_end0
  go_wp2
  go_end0
  exact ⟨rfl, rfl⟩
set_option maxRecDepth 100000 in
/-- '(*sync.Mutex).Lock', the lock free (state 0): state 1. -/
theorem lock_free (a : Addr) (w : World) (hc : w.cell? a = some (.int .i32 0)) (hz : w.frozen? a = false) :
    Calls Tryz.prog 67 #[.pointer (some a)] w fun e w' => e = .returned (.tuple #[]) ∧ w' = w.setCell a (.int .i32 1) := by
  have hd := disable
  have he := enable
  have ha := acquire
  have hcas := run_call_cas_hit (P := Tryz.prog) Tryz.func82 (by kernel_rfl) (by kernel_rfl) (by kernel_rfl) .i32 (by kernel_rfl) (y := 1) hc hz
  have hc' : (w.setCell a (.int .i32 1)).cell? a = some (.int .i32 1) := World.cell?_setCell_same w a _ hc
  have hcv := run_convert_to_unsafe (P := Tryz.prog) (src := 142) (dst := 79) Tryz.underlying142 Tryz.underlying79 (by kernel_rfl) hc'
  go_enter Tryz.func67, Tryz.ntmps67
  go_wp2
  first | go_end0 | (simp only [Exit.inBlock, Exit.then]; refine bodyPost_ret (results_none rfl _ _ _) rfl ?_) | refine bodyPost_ret (results_none rfl _ _ _) rfl ?_
  go_wp2
  go_end0
  exact ⟨rfl, rfl⟩
/-! The replacer: five cells. -/
def Five (W : World) (b : Nat) (v0 v1 v2 v3 v4 : Value) : Prop := W.heap[b]? = some (.cells #[v0, v1, v2, v3, v4] 96 (0, 0))
theorem Five.cell {W : World} {b : Nat} {v0 v1 v2 v3 v4 : Value} (h : Five W b v0 v1 v2 v3 v4) (i : Nat) : W.cell? ⟨b, i, none⟩ = (#[v0, v1, v2, v3, v4] : Array Value)[i]? := by simp [World.cell?, show W.heap[b]? = _ from h]
theorem Five.frozen {W : World} {b : Nat} {v0 v1 v2 v3 v4 : Value} (h : Five W b v0 v1 v2 v3 v4) (i : Nat) : W.frozen? ⟨b, i, none⟩ = false := by simp [World.frozen?, show W.heap[b]? = _ from h]
theorem Five.lt {W : World} {b : Nat} {v0 v1 v2 v3 v4 : Value} (h : Five W b v0 v1 v2 v3 v4) : b < W.heap.size := (Array.getElem?_eq_some_iff.1 h).1
theorem Five.below {W W' : World} {b : Nat} {v0 v1 v2 v3 v4 : Value} (h : Five W b v0 v1 v2 v3 v4) (hb : Below W.heap.size W W') : Five W' b v0 v1 v2 v3 v4 := (hb.block b h.lt).trans h
theorem cells_set {W : World} {b : Nat} {cs : Array Value} {t : TypeId} (h : W.heap[b]? = some (.cells cs t (0, 0))) (i : Nat) (y : Value) : (W.setCell ⟨b, i, none⟩ y).heap[b]? = some (.cells (cs.setIfInBounds i y) t (0, 0)) := by
  obtain ⟨hlt, hk⟩ := Array.getElem?_eq_some_iff.1 h
  show (W.heap.modify b _)[b]? = _
  rw [Array.getElem?_eq_getElem (by rw [Array.size_modify]; exact hlt), Array.getElem_modify_self, hk]
  rfl
set_option maxRecDepth 100000 in
set_option maxHeartbeats 1600000 in
/-- '(*sync.Once).doSlow': the lock is taken, the function is called, 'done' is stored, the lock is let go. -/
theorem slow_any (b : Nat) (v2 v3 v4 : Value) (w : World) (h5 : Five w b (.int .u32 0) (.int .i32 0) v2 v3 v4) (Q : World → Prop) (hQ : ∀ w', Q w' → ∃ y3 y4, Five w' b (.int .u32 0) (.int .i32 1) v2 y3 y4)
    (H : Calls Tryz.prog 54 #[.pointer (some ⟨b, 0, none⟩)] (w.setCell ⟨b, 1, none⟩ (.int .i32 1)) fun e w' => e = .returned (.tuple #[]) ∧ Q w') :
    Calls Tryz.prog 62 #[.pointer (some ⟨b, 0, none⟩), .func (.func 54) #[.pointer (some ⟨b, 0, none⟩)] #[]] w fun e w' => e = .returned (.tuple #[]) ∧ ∃ w1, Q w1 ∧ w' = (w1.drew.setCell ⟨b, 0, none⟩ (.int .u32 1)).setCell ⟨b, 1, none⟩ (.int .i32 0) := by
  have h0 : w.cell? ⟨b, 0, none⟩ = some (.int .u32 0) := (h5.cell 0).trans rfl
  have h1 : w.cell? ⟨b, 1, none⟩ = some (.int .i32 0) := (h5.cell 1).trans rfl
  have f1 := h5.frozen 1
  have hl := run_call_load (P := Tryz.prog) Tryz.func66 (by kernel_rfl) (by kernel_rfl) (by kernel_rfl) .u32 (by kernel_rfl) (w := w.setCell ⟨b, 1, none⟩ (.int .i32 1)) (a := ⟨b, 0, none⟩) (x := 0) ((World.cell?_setCell_other _ ⟨b, 1, none⟩ ⟨b, 0, none⟩ _ (by simp)).trans h0)
  have hnot : ∀ (x : Bool) (w : World), (Op.unary .not (.bool x)).run Tryz.prog w = .ok (.bool (!x)) w := fun _ _ => rfl
  have HH := Aside0.mk H
  have HQ := Aside0.mk hQ
  clear H hQ
  go_enter_defers Tryz.func62, Tryz.ntmps62
  go_wp2_with (first | (go_at_call 67; refine (lock_free ⟨b, 1, none⟩ _ (by go_simp) (by go_simp)).mono ?_; rintro e w' ⟨rfl, rfl⟩) | (go_at_call 61; go_in))
  refine HH.out.mono ?_
  rintro e w1 ⟨rfl, hq⟩
  obtain ⟨y3, y4, h6⟩ := HQ.out w1 hq
  go_wp2
  -- the two deferred calls, the last laid first
  refine leaves_cons (f := 69) (args := #[.pointer (some ⟨b, 0, none⟩), .bool true]) (by simp) (by simp [go_sem]) ?_
  refine (store_deferred ⟨b, 0, none⟩ (.int .u32 0) .returning _ ((h6.cell 0).trans rfl) (h6.frozen 0)).mono ?_
  rintro e u' w'' ⟨rfl, rfl, rfl⟩
  refine leaves_cons (f := 68) (args := #[.pointer (some ⟨b, 1, none⟩)]) (by simp [settle]) (by simp [go_sem]) ?_
  have h7 : Five (w1.drew.setCell ⟨b, 0, none⟩ (.int .u32 1)) b (.int .u32 1) (.int .i32 1) v2 y3 y4 := cells_set (W := w1.drew) h6 0 _
  refine (unlock_deferred ⟨b, 1, none⟩ _ _ ((h7.cell 1).trans rfl) (h7.frozen 1)).mono ?_
  rintro e u' w'' ⟨rfl, rfl, rfl⟩
  simp [Leaves, settle, results, Tryz.results62]
  exact ⟨w1, hq, rfl⟩
/-- '(*sync.Once).Do', not yet done, the lock free. -/
theorem do_first (b : Nat) (v2 v3 v4 : Value) (w : World) (h5 : Five w b (.int .u32 0) (.int .i32 0) v2 v3 v4) (Q : World → Prop) (hQ : ∀ w', Q w' → ∃ y3 y4, Five w' b (.int .u32 0) (.int .i32 1) v2 y3 y4)
    (H : Calls Tryz.prog 54 #[.pointer (some ⟨b, 0, none⟩)] (w.setCell ⟨b, 1, none⟩ (.int .i32 1)) fun e w' => e = .returned (.tuple #[]) ∧ Q w') :
    Calls Tryz.prog 53 #[.pointer (some ⟨b, 0, none⟩), .func (.func 54) #[.pointer (some ⟨b, 0, none⟩)] #[]] w fun e w' => e = .returned (.tuple #[]) ∧ ∃ w1, Q w1 ∧ w' = (w1.drew.setCell ⟨b, 0, none⟩ (.int .u32 1)).setCell ⟨b, 1, none⟩ (.int .i32 0) := by
  have h0 : w.cell? ⟨b, 0, none⟩ = some (.int .u32 0) := (h5.cell 0).trans rfl
  have hl := run_call_load (P := Tryz.prog) Tryz.func66 (by kernel_rfl) (by kernel_rfl) (by kernel_rfl) .u32 (by kernel_rfl) h0
  have hnot : ∀ (x : Bool) (w : World), (Op.unary .not (.bool x)).run Tryz.prog w = .ok (.bool (!x)) w := fun _ _ => rfl
  have HS := Aside0.mk (slow_any b v2 v3 v4 w h5 Q hQ H)
  clear H hQ
  go_enter Tryz.func53, Tryz.ntmps53
  go_wp2_with (first | (go_at_call 62; refine HS.out.mono ?_; rintro e w' ⟨rfl, w1, hq, rfl⟩) | (go_at_call 61; go_in))
  go_end0
  exact ⟨rfl, w1, hq, rfl⟩
end Go.Proofs.YtdecjlkfpbgkgaaGreatDoor.X
namespace Go.Proofs.YtdecjlkfpbgkgaaGreatDoor.X
open Go.RowKit Go.Shelf Go.Proofs.YtdecjlkfpbgkgaaGreatDoorW.PrintWords Go.Proofs.YtdecjlkfpbgkgaaGreatDoor.F Go.Proofs.YtdecjlkfpbgkgaaGreatDoor.Pm
set_option linter.unusedVariables false
set_option linter.unusedSimpArgs false
def fourS : List Value := [.string ⟨#[34]⟩, .string ⟨#[92, 34]⟩, .string ⟨#[92]⟩, .string ⟨#[92, 92]⟩]
/-- The texts of a slice's cells at the head of block g. -/
def RowAt (W : World) (g : Nat) (l : List Value) : Prop := ∀ j u, l[j]? = some u → W.cell? ⟨g, j, none⟩ = some u
theorem RowAt.below {W W' : World} {g : Nat} {l : List Value} {B : Nat} (h : RowAt W g l) (hb : Below B W W') (hg : g < B) : RowAt W' g l := fun j u hu => by
  have := h j u hu
  unfold World.cell? at this ⊢
  rw [hb.block g hg]
  exact this
set_option maxRecDepth 100000 in
set_option maxHeartbeats 4000000 in
theorem newrep_calls (g : Nat) (w : World) (hg : RowAt w g fourS) (hlt : g < w.heap.size) :
    Calls Tryz.prog 42 #[.slice (some ⟨g, 0, none⟩) 4 4] w fun e w' => ∃ (b g2 c : Nat), e = .returned (.pointer (some ⟨b, 0, none⟩)) ∧ Below w.heap.size w w' ∧ w.heap.size ≤ b ∧ w.heap.size ≤ g2 ∧ g2 < w'.heap.size ∧ g2 ≠ b ∧ Five w' b (.int .u32 0) (.int .i32 0) (.int .u32 0) .nilIface (.slice (some ⟨g2, 0, none⟩) 4 c) ∧ RowAt w' g2 fourS := by
  have hu96 := Tryz.underlying96
  have r0 : w.cell? ⟨g, 0, none⟩ = some (.string ⟨#[34]⟩) := hg 0 _ rfl
  have r1 : w.cell? ⟨g, 1, none⟩ = some (.string ⟨#[92, 34]⟩) := hg 1 _ rfl
  have r2 : w.cell? ⟨g, 2, none⟩ = some (.string ⟨#[92]⟩) := hg 2 _ rfl
  have r3 : w.cell? ⟨g, 3, none⟩ = some (.string ⟨#[92, 92]⟩) := hg 3 _ rfl
  clear hg
  go_enter Tryz.func42, Tryz.ntmps42
  go_wp2
  generalize (Question.appendCap 4 0 9).cut (w.tape w.drawn (Question.appendCap 4 0 9)) = cp
  generalize hC : #[Value.string ⟨#[34]⟩, Value.string ⟨#[92, 34]⟩, Value.string ⟨#[92]⟩, Value.string ⟨#[92, 92]⟩] ++ Builtin.zeroCells #[Value.string ⟨#[]⟩] (cp - 4) = C
  have s1 : (w.alloc (.cells C 9)).heap.size = w.heap.size + 1 := World.size_alloc _ _
  have h1 : (w.alloc (.cells C 9)).heap[w.heap.size]? = some (.cells C 9 (0, 0)) := World.alloc_heap_new _ _
  have b1 : Below w.heap.size w (w.alloc (.cells C 9)) := (Below.refl _ _).alloc (Nat.le_refl _) _
  generalize w.alloc (.cells C 9) = W1 at s1 h1 b1 ⊢
  have h2 := World.alloc_heap_new W1 (.cells #[.int .u32 0, .int .i32 0, .int .u32 0, .nilIface, .slice (some ⟨w.heap.size, 0, none⟩) 4 cp] 96)
  have b2 : Below W1.heap.size W1 (W1.alloc (.cells #[.int .u32 0, .int .i32 0, .int .u32 0, .nilIface, .slice (some ⟨w.heap.size, 0, none⟩) 4 cp] 96)) := (Below.refl _ _).alloc (Nat.le_refl _) _
  have b3 := b2.drew
  have s2 : (W1.alloc (.cells #[.int .u32 0, .int .i32 0, .int .u32 0, .nilIface, .slice (some ⟨w.heap.size, 0, none⟩) 4 cp] 96)).heap.size = w.heap.size + 2 := by rw [World.size_alloc, s1]
  generalize W1.alloc (.cells #[.int .u32 0, .int .i32 0, .int .u32 0, .nilIface, .slice (some ⟨w.heap.size, 0, none⟩) 4 cp] 96) = W2 at h2 b2 b3 s2 ⊢
  rw [s1] at h2
  go_ret
  refine ⟨w.heap.size + 1, w.heap.size, cp, rfl, b1.trans (b3.mono (by omega)), by omega, Nat.le_refl _, ?_, by omega, h2, ?_⟩
  · show w.heap.size < W2.heap.size; omega
  · intro j u hu
    have h3 : W2.drew.heap[w.heap.size]? = some (.cells C 9 (0, 0)) := (b3.block w.heap.size (by omega)).trans h1
    have hj : j < 4 := (List.getElem?_eq_some_iff.1 hu).1
    simp only [World.cell?, h3]
    show C[j]? = some u
    rw [← hC, Array.getElem?_append_left (by show j < 4; exact hj)]
    simpa [fourS] using hu
end Go.Proofs.YtdecjlkfpbgkgaaGreatDoor.X
namespace Go.Proofs.YtdecjlkfpbgkgaaGreatDoor.X
open Go.RowKit Go.Shelf Go.Proofs.YtdecjlkfpbgkgaaGreatDoorW.PrintWords Go.Proofs.YtdecjlkfpbgkgaaGreatDoor.F Go.Proofs.YtdecjlkfpbgkgaaGreatDoor.Pm
set_option linter.unusedVariables false
set_option linter.unusedSimpArgs false
theorem eq39 (W : World) : (binOp .eql 39 (.slice none 0 0) (.slice none 0 0)).run Tryz.prog W = .ok (.bool true) W := by kernel_rfl
theorem conv1 (W : World) (x : UInt8) : (convert 39 9 (.slice (some ⟨W.heap.size, 0, none⟩) 1 1)).run Tryz.prog (W.alloc (.cells #[.int .u8 (x.toNat : Int)] 5)) = .ok (.string ⟨#[x]⟩) (W.alloc (.cells #[.int .u8 (x.toNat : Int)] 5)) :=
  Lib.run_convert_whole (W.alloc (.cells #[.int .u8 (x.toNat : Int)] 5)) 39 5 9 Tryz.underlying39 Tryz.underlying5 Tryz.underlying9 W.heap.size 0 ⟨#[x]⟩ (fun i hi => by
    have : i = 0 := by have : i < 1 := hi; omega
    subst this
    have h := World.alloc_heap_new W (.cells #[.int .u8 (x.toNat : Int)] 5)
    unfold World.cell?
    rw [h]
    rfl) 1
theorem bw_below (w : World) (s : ByteArray) : Below w.heap.size w (Lib.bytesWorld w 5 s) := ⟨rfl, rfl, rfl, by rw [Lib.bytesWorld_size]; omega, fun k hk => Lib.bytesWorld_at_old w 5 s k hk⟩
theorem mk40 (W : World) : (Instr.makeSlice 40 (.int .i64 0) (.int .i64 2)).run Tryz.prog W = .ok (.slice (some ⟨W.heap.size, 0, none⟩) 0 2) (W.alloc (.cells #[.string ⟨#[]⟩, .string ⟨#[]⟩] 9)) := by kernel_rfl
/-- The table as it is built: no byte is replaced yet. -/
noncomputable def repC (v : Value) : Array Value := Tryz.zeroCells119.setIfInBounds 256 v
theorem repZ_size : Tryz.zeroCells119.size = 257 := by kernel_rfl
theorem repZ_all : Tryz.zeroCells119.all (·.oneCell') = true := by kernel_rfl
set_option maxRecDepth 100000 in
theorem repZ_get : ∀ i : Nat, i < 257 → Tryz.zeroCells119[i]? = some (.slice none 0 0) := by
  have h : ((List.range 257).all fun i => match Tryz.zeroCells119[i]? with | some (.slice none 0 0) => true | _ => false) = true := by kernel_rfl
  intro i hi
  have := List.all_eq_true.1 h i (List.mem_range.2 hi)
  split at this
  · assumption
  · cases this
set_option maxRecDepth 100000 in
theorem rep_store (W : World) (n m : Nat) : (storeCells ⟨W.heap.size, 0, none⟩ (Tryz.zeroCells119.toList.set 256 (.slice (some ⟨n, 0, none⟩) 0 m)) 0).run Tryz.prog (W.alloc (.cells Tryz.zeroCells119 119)) = .ok () (W.alloc (.cells (repC (.slice (some ⟨n, 0, none⟩) 0 m)) 119)) := by
  have hs : (repC (.slice (some ⟨n, 0, none⟩) 0 m)).size = 257 := by unfold repC; rw [Array.size_setIfInBounds]; exact repZ_size
  have := run_storeCells_new (P := Tryz.prog) W 119 Tryz.zeroCells119 (repC (.slice (some ⟨n, 0, none⟩) 0 m)) (by rw [hs]; kernel_rfl) (by rw [hs]; exact repZ_size) (by
    rw [Array.all_eq_true_iff_forall_mem]
    intro x hx
    rcases Array.mem_or_eq_of_mem_setIfInBounds hx with h | h
    · exact Array.all_eq_true_iff_forall_mem.1 repZ_all x h
    · rw [h]; rfl)
  rw [show (repC (.slice (some ⟨n, 0, none⟩) 0 m)).toList = Tryz.zeroCells119.toList.set 256 (.slice (some ⟨n, 0, none⟩) 0 m) from by unfold repC; rw [Array.toList_setIfInBounds]] at this
  exact this
def Tab (W : World) (p : Nat) (cs : Array Value) : Prop := W.heap[p]? = some (.cells cs 119 (0, 0))
theorem Tab.cell {W : World} {p : Nat} {cs : Array Value} (h : Tab W p cs) (i : Nat) : W.cell? ⟨p, i, none⟩ = cs[i]? := by simp [World.cell?, show W.heap[p]? = _ from h]
theorem Tab.frozen {W : World} {p : Nat} {cs : Array Value} (h : Tab W p cs) (i : Nat) : W.frozen? ⟨p, i, none⟩ = false := by simp [World.frozen?, show W.heap[p]? = _ from h]
theorem Tab.lt {W : World} {p : Nat} {cs : Array Value} (h : Tab W p cs) : p < W.heap.size := (Array.getElem?_eq_some_iff.1 h).1
theorem Tab.below {W W' : World} {p B : Nat} {cs : Array Value} (h : Tab W p cs) (hb : Below B W W') (hl : p < B) : Tab W' p cs := (hb.block p hl).trans h
theorem Tab.set {W : World} {p : Nat} {cs : Array Value} (h : Tab W p cs) (i : Nat) (y : Value) : Tab (W.setCell ⟨p, i, none⟩ y) p (cs.setIfInBounds i y) := cells_set h i y
def Duo (W : World) (r : Nat) (a b : Value) : Prop := W.heap[r]? = some (.cells #[a, b] 9 (0, 0))
theorem Duo.cell {W : World} {r : Nat} {a b : Value} (h : Duo W r a b) (i : Nat) : W.cell? ⟨r, i, none⟩ = (#[a, b] : Array Value)[i]? := by simp [World.cell?, show W.heap[r]? = _ from h]
theorem Duo.frozen {W : World} {r : Nat} {a b : Value} (h : Duo W r a b) (i : Nat) : W.frozen? ⟨r, i, none⟩ = false := by simp [World.frozen?, show W.heap[r]? = _ from h]
theorem repC_get (v : Value) (i : Nat) (h : i < 256) : (repC v)[i]? = some (.slice none 0 0) := by
  unfold repC
  rw [Array.getElem?_setIfInBounds_ne (by omega)]
  exact repZ_get i (by omega)
theorem repC_last (v : Value) : (repC v)[256]? = some v := by
  unfold repC
  rw [Array.getElem?_setIfInBounds_self, if_pos (by rw [repZ_size]; decide)]
theorem repC_size (v : Value) : (repC v).size = 257 := by unfold repC; rw [Array.size_setIfInBounds]; exact repZ_size
noncomputable def rep0 (n : Nat) : Array Value := repC (.slice (some ⟨n, 0, none⟩) 0 2)
noncomputable def rep1 (n q c : Nat) : Array Value := ((rep0 n).setIfInBounds 256 (.slice (some ⟨n, 0, none⟩) 1 2)).setIfInBounds 92 (.slice (some ⟨q, 0, none⟩) 2 c)
noncomputable def rep2 (n q c q' c' : Nat) : Array Value := ((rep1 n q c).setIfInBounds 256 (.slice (some ⟨n, 0, none⟩) 2 2)).setIfInBounds 34 (.slice (some ⟨q', 0, none⟩) 2 c')
theorem rep1_get (n q c : Nat) : (rep1 n q c)[34]? = some (.slice none 0 0) := by
  unfold rep1
  rw [Array.getElem?_setIfInBounds_ne (by decide), Array.getElem?_setIfInBounds_ne (by decide)]
  exact repC_get _ 34 (by decide)
theorem rep1_last (n q c : Nat) : (rep1 n q c)[256]? = some (.slice (some ⟨n, 0, none⟩) 1 2) := by
  unfold rep1
  rw [Array.getElem?_setIfInBounds_ne (by decide), Array.getElem?_setIfInBounds_self, if_pos (by unfold rep0; rw [repC_size]; decide)]
theorem BytesAt.move {W W' : World} {g : Nat} {l : List UInt8} (h : BytesAt W g l) (e : W'.heap[g]? = W.heap[g]?) : BytesAt W' g l := by
  obtain ⟨cs, z, h1, h2, h3⟩ := h
  exact ⟨cs, z, e.trans h1, h2, h3⟩
theorem BytesAt.lt {W : World} {g : Nat} {l : List UInt8} (h : BytesAt W g l) : g < W.heap.size := by
  obtain ⟨cs, z, h1, h2, h3⟩ := h
  exact (Array.getElem?_eq_some_iff.1 h1).1
theorem BytesAt.ne_tab {W : World} {g p : Nat} {l : List UInt8} {cs : Array Value} (h : BytesAt W g l) (hT : Tab W p cs) : g ≠ p := by
  obtain ⟨cs, z, h1, h2, h3⟩ := h
  rintro rfl
  have := h1.symm.trans hT
  injection this with this
  injection this with _ h5 _
  exact absurd h5 (by decide)
theorem BytesAt.ne_duo {W : World} {g r : Nat} {l : List UInt8} {a b : Value} (h : BytesAt W g l) (hD : Duo W r a b) : g ≠ r := by
  obtain ⟨cs, z, h1, h2, h3⟩ := h
  rintro rfl
  have := h1.symm.trans hD
  injection this with this
  injection this with _ h5 _
  exact absurd h5 (by decide)
/-- The table as build leaves it. -/
def RepB (W : World) (p : Nat) : Prop := ∃ n q c q' c', Tab W p (rep2 n q c q' c') ∧ Duo W n (.string ⟨#[92]⟩) (.string ⟨#[34]⟩) ∧ BytesAt W q [92, 92] ∧ BytesAt W q' [92, 34]
/-- The stages of the table. -/
def Stage (w W : World) (z : Int) : Prop :=
  Below w.heap.size w W ∧
  ((z = 2 ∧ Tab W (w.heap.size + 1) (rep0 w.heap.size) ∧ Duo W w.heap.size (.string ⟨#[]⟩) (.string ⟨#[]⟩)) ∨
   (z = 0 ∧ ∃ q c, Tab W (w.heap.size + 1) (rep1 w.heap.size q c) ∧ Duo W w.heap.size (.string ⟨#[92]⟩) (.string ⟨#[]⟩) ∧ BytesAt W q [92, 92]) ∨
   (z = -2 ∧ ∃ q c q' c', Tab W (w.heap.size + 1) (rep2 w.heap.size q c q' c') ∧ Duo W w.heap.size (.string ⟨#[92]⟩) (.string ⟨#[34]⟩) ∧ BytesAt W q [92, 92] ∧ BytesAt W q' [92, 34]))
set_option maxRecDepth 100000 in
set_option maxHeartbeats 8000000 in
theorem build_calls (b g c : Nat) (v0 v1 v2 v3 : Value) (w : World) (h5 : Five w b v0 v1 v2 v3 (.slice (some ⟨g, 0, none⟩) 4 c)) (hr : RowAt w g fourS) (hg : g < w.heap.size) :
    Calls Tryz.prog 63 #[.pointer (some ⟨b, 0, none⟩)] w fun e w' => ∃ p, e = .returned (.iface 120 (.pointer (some ⟨p, 0, none⟩))) ∧ Below w.heap.size w w' ∧ w.heap.size ≤ p ∧ RepB w' p := by
  have hu96 := Tryz.underlying96
  have r0 : w.cell? ⟨g, 0, none⟩ = some (.string ⟨#[34]⟩) := hr 0 _ rfl
  have r1 : w.cell? ⟨g, 1, none⟩ = some (.string ⟨#[92, 34]⟩) := hr 1 _ rfl
  have r2 : w.cell? ⟨g, 2, none⟩ = some (.string ⟨#[92]⟩) := hr 2 _ rfl
  have r3 : w.cell? ⟨g, 3, none⟩ = some (.string ⟨#[92, 92]⟩) := hr 3 _ rfl
  have c4 : w.cell? ⟨b, 4, none⟩ = some (.slice (some ⟨g, 0, none⟩) 4 c) := (h5.cell 4).trans rfl
  have HR := Aside0.mk hr
  have H5 := Aside0.mk h5
  clear hr h5
  have hmk := mk40
  go_enter Tryz.func63, Tryz.ntmps63
  go_wp2_with fail
  go_loopg [5, 4] 3 (fun kq v5 v4 wr => ∃ (i : Nat), v5 = .int .i64 i ∧ wr = w ∧ v4 = .bool (i == 0) ∧ Aside0 (i + 2 * kq = 6 ∧ i ≤ 4))
  case atStart => exact ⟨0, rfl, rfl, rfl, ⟨by omega, by omega⟩⟩
  case round =>
    obtain ⟨i, rfl, hwr, rfl, HI⟩ := hrel
    subst wr
    cases gk with
    | zero => exact absurd HI.out (by omega)
    | succ k1 =>
      have hi : i = 0 ∨ i = 2 ∨ i = 4 := by have := HI.out; omega
      rcases hi with rfl | rfl | rfl
      · go_wp2_with fail
        go_roundg k1
        case measure => omega
        case rel => exact ⟨2, rfl, rfl, rfl, ⟨by have := HI.out; omega, by omega⟩⟩
      · go_wp2_with fail
        go_roundg k1
        case measure => omega
        case rel => exact ⟨4, rfl, rfl, rfl, ⟨by have := HI.out; omega, by omega⟩⟩
      · have hst := rep_store (w.alloc (.cells #[.string ⟨#[]⟩, .string ⟨#[]⟩] 9)) w.heap.size 2
        rw [World.size_alloc] at hst
        have hB : Below w.heap.size w ((w.alloc (.cells #[.string ⟨#[]⟩, .string ⟨#[]⟩] 9)).alloc (.cells (repC (.slice (some ⟨w.heap.size, 0, none⟩) 0 2)) 119)) := ((Below.refl _ _).alloc (Nat.le_refl _) _).alloc (by rw [World.size_alloc]; omega) _
        have hT := World.alloc_heap_new (w.alloc (.cells #[.string ⟨#[]⟩, .string ⟨#[]⟩] 9)) (.cells (repC (.slice (some ⟨w.heap.size, 0, none⟩) 0 2)) 119)
        rw [World.size_alloc] at hT
        have hD : Duo ((w.alloc (.cells #[.string ⟨#[]⟩, .string ⟨#[]⟩] 9)).alloc (.cells (repC (.slice (some ⟨w.heap.size, 0, none⟩) 0 2)) 119)) w.heap.size (.string ⟨#[]⟩) (.string ⟨#[]⟩) := (((Below.refl _ _).alloc (Nat.le_refl _) _).block w.heap.size (by rw [World.size_alloc]; omega)).trans (World.alloc_heap_new w _)
        have HT := Aside0.mk hT
        have HD := Aside0.mk hD
        have HB := Aside0.mk hB
        clear hT hD hB
        go_wp2_with fail
        go_loopg [12] 3 (fun kq v12 W => ∃ (z : Int), v12 = .int .i64 z ∧ Aside0 (Stage w W z) ∧ Aside0 (z + 4 = 2 * kq))
        case atStart => exact ⟨2, rfl, ⟨HB.out, .inl ⟨rfl, HT.out, HD.out⟩⟩, ⟨by omega⟩⟩
        case round =>
          clear HT HD HB hst hmk r0 r1 r2 r3 c4 hu96
          obtain ⟨z, rfl, HS, HK⟩ := hrel
          cases gk with
          | zero =>
            obtain ⟨_, h | h | h⟩ := HS.out
            · exact absurd HK.out (by omega)
            · exact absurd HK.out (by omega)
            · exact absurd HK.out (by omega)
          | succ k2 =>
            obtain ⟨hbw, h | h | h⟩ := HS.out
            -- rounds
            -- rounds
            · obtain ⟨rfl, hT, hD⟩ := h
              have hr := HR.out.below hbw hg
              have r2 : wr.cell? ⟨g, 2, none⟩ = some (.string ⟨#[92]⟩) := hr 2 _ rfl
              have r3 : wr.cell? ⟨g, 3, none⟩ = some (.string ⟨#[92, 92]⟩) := hr 3 _ rfl
              have t1 : wr.cell? ⟨w.heap.size + 1, 92, none⟩ = some (.slice none 0 0) := (hT.cell 92).trans (repC_get _ 92 (by decide))
              have t2 : wr.cell? ⟨w.heap.size + 1, 256, none⟩ = some (.slice (some ⟨w.heap.size, 0, none⟩) 0 2) := (hT.cell 256).trans (repC_last _)
              have HT := Aside0.mk hT
              have HD := Aside0.mk hD
              have HBW := Aside0.mk hbw
              have hl1 : w.heap.size + 2 ≤ wr.heap.size := hT.lt
              clear hT hD hbw hr
              have hq := eq39
              have k1_ : (convert 39 9 (.slice (some ⟨wr.heap.size, 0, none⟩) 1 1)).run Tryz.prog (wr.alloc (.cells #[.int .u8 92] 5)) = .ok (.string ⟨#[92]⟩) (wr.alloc (.cells #[.int .u8 92] 5)) := conv1 wr 92
              have y0 : ((⟨#[92]⟩ : ByteArray)[0]'(by decide)).toNat = 92 := rfl
              have bA : Below wr.heap.size wr ((wr.alloc (.cells #[.int .u8 92] 5)).alloc (.cells #[.string ⟨#[92]⟩] 9)) := ((Below.refl _ _).alloc (Nat.le_refl _) _).alloc (by rw [World.size_alloc]; omega) _
              have dB : Duo ((wr.alloc (.cells #[.int .u8 92] 5)).alloc (.cells #[.string ⟨#[92]⟩] 9)) w.heap.size (.string ⟨#[]⟩) (.string ⟨#[]⟩) := (bA.block _ (by omega)).trans HD.out
              have tB : Tab ((wr.alloc (.cells #[.int .u8 92] 5)).alloc (.cells #[.string ⟨#[92]⟩] 9)) (w.heap.size + 1) _ := HT.out.below bA (by omega)
              have g0 : ((wr.alloc (.cells #[.int .u8 92] 5)).alloc (.cells #[.string ⟨#[92]⟩] 9)).cell? ⟨w.heap.size, 0, none⟩ = some (.string ⟨#[]⟩) := (dB.cell 0).trans rfl
              have g1 := dB.frozen 0
              have dC := cells_set dB 0 (.string ⟨#[92]⟩)
              have tC : Tab (((wr.alloc (.cells #[.int .u8 92] 5)).alloc (.cells #[.string ⟨#[92]⟩] 9)).setCell ⟨w.heap.size, 0, none⟩ (.string ⟨#[92]⟩)) (w.heap.size + 1) _ := (Below.heap_setCell _ _ _ _ (by show w.heap.size + 1 ≠ w.heap.size; omega)).trans tB
              have bC : Below w.heap.size w (((wr.alloc (.cells #[.int .u8 92] 5)).alloc (.cells #[.string ⟨#[92]⟩] 9)).setCell ⟨w.heap.size, 0, none⟩ (.string ⟨#[92]⟩)) := (HBW.out.trans (bA.mono (by omega))).setCell (p := ⟨w.heap.size, 0, none⟩) (Nat.le_refl _) _
              have g2 : (((wr.alloc (.cells #[.int .u8 92] 5)).alloc (.cells #[.string ⟨#[92]⟩] 9)).setCell ⟨w.heap.size, 0, none⟩ (.string ⟨#[92]⟩)).cell? ⟨w.heap.size + 1, 256, none⟩ = some (.slice (some ⟨w.heap.size, 0, none⟩) 0 2) := (tC.cell 256).trans (repC_last _)
              have g3 := tC.frozen 256
              have tD := tC.set 256 (.slice (some ⟨w.heap.size, 0, none⟩) 1 2)
              have dD : Duo ((((wr.alloc (.cells #[.int .u8 92] 5)).alloc (.cells #[.string ⟨#[92]⟩] 9)).setCell ⟨w.heap.size, 0, none⟩ (.string ⟨#[92]⟩)).setCell ⟨w.heap.size + 1, 256, none⟩ (.slice (some ⟨w.heap.size, 0, none⟩) 1 2)) w.heap.size (.string ⟨#[92]⟩) (.string ⟨#[]⟩) := (Below.heap_setCell _ _ _ _ (by show w.heap.size ≠ w.heap.size + 1; omega)).trans dC
              have bD : Below w.heap.size w ((((wr.alloc (.cells #[.int .u8 92] 5)).alloc (.cells #[.string ⟨#[92]⟩] 9)).setCell ⟨w.heap.size, 0, none⟩ (.string ⟨#[92]⟩)).setCell ⟨w.heap.size + 1, 256, none⟩ (.slice (some ⟨w.heap.size, 0, none⟩) 1 2)) := bC.setCell (p := ⟨w.heap.size + 1, 256, none⟩) (by show w.heap.size ≤ w.heap.size + 1; omega) _
              have TD := Aside0.mk tD
              have DD := Aside0.mk dD
              have BD := Aside0.mk bD
              clear bA dB tB dC tC bC tD dD bD
              go_upto_region 34 with (fail)
              clear g0 g1 g2 g3 k1_ HT HD HBW
              generalize ((((wr.alloc (.cells #[.int .u8 92] 5)).alloc (.cells #[.string ⟨#[92]⟩] 9)).setCell ⟨w.heap.size, 0, none⟩ (.string ⟨#[92]⟩)).setCell ⟨w.heap.size + 1, 256, none⟩ (.slice (some ⟨w.heap.size, 0, none⟩) 1 2)) = W3 at TD DD BD ⊢
              have kc := Lib.run_convert_string_bytes (P := Tryz.prog) W3 9 39 5 ⟨#[92, 92]⟩ Tryz.underlying9 Tryz.underlying39 Tryz.underlying5
              rw [show (⟨#[92, 92]⟩ : ByteArray).size = 2 from rfl] at kc
              have bE := bw_below W3 ⟨#[92, 92]⟩
              have qE := BytesAt.new W3 ⟨#[92, 92]⟩
              have hpW : w.heap.size + 1 < W3.heap.size := TD.out.lt
              have hpr : w.heap.size < W3.heap.size := by omega
              have tE := TD.out.below bE hpW
              have dE : Duo _ w.heap.size _ _ := (bE.block _ hpr).trans DD.out
              have m0 := (tE.cell 92).trans (show _ = some (.slice none 0 0) from by rw [Array.getElem?_setIfInBounds_ne (by decide)]; exact (repC_get _ 92 (by decide)))
              have m1 := tE.frozen 92
              have tF := tE.set 92 (.slice (some ⟨W3.heap.size, 0, none⟩) 2 (grownCap W3 2 0 5))
              have dF : Duo _ w.heap.size _ _ := (Below.heap_setCell _ ⟨w.heap.size + 1, 92, none⟩ (.slice (some ⟨W3.heap.size, 0, none⟩) 2 (grownCap W3 2 0 5)) _ (by show w.heap.size ≠ w.heap.size + 1; omega)).trans dE
              have qF := qE.move (Below.heap_setCell _ ⟨w.heap.size + 1, 92, none⟩ (.slice (some ⟨W3.heap.size, 0, none⟩) 2 (grownCap W3 2 0 5)) _ (by show W3.heap.size ≠ w.heap.size + 1; omega))
              have bF := (BD.out.trans (bE.mono BD.out.size)).setCell (p := ⟨w.heap.size + 1, 92, none⟩) (by show w.heap.size ≤ w.heap.size + 1; omega) (.slice (some ⟨W3.heap.size, 0, none⟩) 2 (grownCap W3 2 0 5))
              have TF := Aside0.mk tF
              have DF := Aside0.mk dF
              have QF := Aside0.mk qF
              have BF := Aside0.mk bF
              clear bE qE tE dE tF dF qF bF TD DD BD
              go_wp2_with fail
              go_roundg k2
              case measure => omega
              case rel => exact ⟨0, rfl, ⟨BF.out, .inr (.inl ⟨rfl, _, _, TF.out, DF.out, QF.out⟩)⟩, ⟨by have := HK.out; omega⟩⟩
            · obtain ⟨rfl, q, cq, hT, hD, hQ⟩ := h
              have hr := HR.out.below hbw hg
              have r2 : wr.cell? ⟨g, 0, none⟩ = some (.string ⟨#[34]⟩) := hr 0 _ rfl
              have r3 : wr.cell? ⟨g, 1, none⟩ = some (.string ⟨#[92, 34]⟩) := hr 1 _ rfl
              have t1 : wr.cell? ⟨w.heap.size + 1, 34, none⟩ = some (.slice none 0 0) := (hT.cell 34).trans (rep1_get _ _ _)
              have t2 : wr.cell? ⟨w.heap.size + 1, 256, none⟩ = some (.slice (some ⟨w.heap.size, 0, none⟩) 1 2) := (hT.cell 256).trans (rep1_last _ _ _)
              have HT := Aside0.mk hT
              have HD := Aside0.mk hD
              have HBW := Aside0.mk hbw
              have hl1 : w.heap.size + 2 ≤ wr.heap.size := hT.lt
              have HQ1 := Aside0.mk hQ
              have hqp := hQ.ne_tab hT
              have hqr := hQ.ne_duo hD
              have hql := hQ.lt
              have HQN := Aside0.mk (And.intro hqp (And.intro hqr hql))
              clear hQ hqp hqr hql
              clear hT hD hbw hr
              have hq := eq39
              have k1_ : (convert 39 9 (.slice (some ⟨wr.heap.size, 0, none⟩) 1 1)).run Tryz.prog (wr.alloc (.cells #[.int .u8 34] 5)) = .ok (.string ⟨#[34]⟩) (wr.alloc (.cells #[.int .u8 34] 5)) := conv1 wr 34
              have y0 : ((⟨#[34]⟩ : ByteArray)[0]'(by decide)).toNat = 34 := rfl
              have bA : Below wr.heap.size wr ((wr.alloc (.cells #[.int .u8 34] 5)).alloc (.cells #[.string ⟨#[34]⟩] 9)) := ((Below.refl _ _).alloc (Nat.le_refl _) _).alloc (by rw [World.size_alloc]; omega) _
              have dB : Duo ((wr.alloc (.cells #[.int .u8 34] 5)).alloc (.cells #[.string ⟨#[34]⟩] 9)) w.heap.size (.string ⟨#[92]⟩) (.string ⟨#[]⟩) := (bA.block _ (by omega)).trans HD.out
              have tB : Tab ((wr.alloc (.cells #[.int .u8 34] 5)).alloc (.cells #[.string ⟨#[34]⟩] 9)) (w.heap.size + 1) _ := HT.out.below bA (by omega)
              have g0 : ((wr.alloc (.cells #[.int .u8 34] 5)).alloc (.cells #[.string ⟨#[34]⟩] 9)).cell? ⟨w.heap.size, 1, none⟩ = some (.string ⟨#[]⟩) := (dB.cell 1).trans rfl
              have g1 := dB.frozen 1
              have dC := cells_set dB 1 (.string ⟨#[34]⟩)
              have tC : Tab (((wr.alloc (.cells #[.int .u8 34] 5)).alloc (.cells #[.string ⟨#[34]⟩] 9)).setCell ⟨w.heap.size, 1, none⟩ (.string ⟨#[34]⟩)) (w.heap.size + 1) _ := (Below.heap_setCell _ _ _ _ (by show w.heap.size + 1 ≠ w.heap.size; omega)).trans tB
              have bC : Below w.heap.size w (((wr.alloc (.cells #[.int .u8 34] 5)).alloc (.cells #[.string ⟨#[34]⟩] 9)).setCell ⟨w.heap.size, 1, none⟩ (.string ⟨#[34]⟩)) := (HBW.out.trans (bA.mono (by omega))).setCell (p := ⟨w.heap.size, 1, none⟩) (Nat.le_refl _) _
              have g2 : (((wr.alloc (.cells #[.int .u8 34] 5)).alloc (.cells #[.string ⟨#[34]⟩] 9)).setCell ⟨w.heap.size, 1, none⟩ (.string ⟨#[34]⟩)).cell? ⟨w.heap.size + 1, 256, none⟩ = some (.slice (some ⟨w.heap.size, 0, none⟩) 1 2) := (tC.cell 256).trans (rep1_last _ _ _)
              have g3 := tC.frozen 256
              have tD := tC.set 256 (.slice (some ⟨w.heap.size, 0, none⟩) 2 2)
              have dD : Duo ((((wr.alloc (.cells #[.int .u8 34] 5)).alloc (.cells #[.string ⟨#[34]⟩] 9)).setCell ⟨w.heap.size, 1, none⟩ (.string ⟨#[34]⟩)).setCell ⟨w.heap.size + 1, 256, none⟩ (.slice (some ⟨w.heap.size, 0, none⟩) 2 2)) w.heap.size (.string ⟨#[92]⟩) (.string ⟨#[34]⟩) := (Below.heap_setCell _ _ _ _ (by show w.heap.size ≠ w.heap.size + 1; omega)).trans dC
              have bD : Below w.heap.size w ((((wr.alloc (.cells #[.int .u8 34] 5)).alloc (.cells #[.string ⟨#[34]⟩] 9)).setCell ⟨w.heap.size, 1, none⟩ (.string ⟨#[34]⟩)).setCell ⟨w.heap.size + 1, 256, none⟩ (.slice (some ⟨w.heap.size, 0, none⟩) 2 2)) := bC.setCell (p := ⟨w.heap.size + 1, 256, none⟩) (by show w.heap.size ≤ w.heap.size + 1; omega) _
              have QD := Aside0.mk (show BytesAt ((((wr.alloc (.cells #[.int .u8 34] 5)).alloc (.cells #[.string ⟨#[34]⟩] 9)).setCell ⟨w.heap.size, 1, none⟩ (.string ⟨#[34]⟩)).setCell ⟨w.heap.size + 1, 256, none⟩ (.slice (some ⟨w.heap.size, 0, none⟩) 2 2)) q [92, 92] from HQ1.out.move (((Below.heap_setCell _ _ _ _ (by exact HQN.out.1)).trans (Below.heap_setCell _ _ _ _ (by exact HQN.out.2.1))).trans (bA.block q HQN.out.2.2)))
              have TD := Aside0.mk tD
              have DD := Aside0.mk dD
              have BD := Aside0.mk bD
              clear bA dB tB dC tC bC tD dD bD HQ1
              go_upto_region 34 with (fail)
              clear g0 g1 g2 g3 k1_ HT HD HBW
              generalize ((((wr.alloc (.cells #[.int .u8 34] 5)).alloc (.cells #[.string ⟨#[34]⟩] 9)).setCell ⟨w.heap.size, 1, none⟩ (.string ⟨#[34]⟩)).setCell ⟨w.heap.size + 1, 256, none⟩ (.slice (some ⟨w.heap.size, 0, none⟩) 2 2)) = W3 at TD DD BD QD ⊢
              have kc := Lib.run_convert_string_bytes (P := Tryz.prog) W3 9 39 5 ⟨#[92, 34]⟩ Tryz.underlying9 Tryz.underlying39 Tryz.underlying5
              rw [show (⟨#[92, 34]⟩ : ByteArray).size = 2 from rfl] at kc
              have bE := bw_below W3 ⟨#[92, 34]⟩
              have qE := BytesAt.new W3 ⟨#[92, 34]⟩
              have hpW : w.heap.size + 1 < W3.heap.size := TD.out.lt
              have hpr : w.heap.size < W3.heap.size := by omega
              have tE := TD.out.below bE hpW
              have dE : Duo _ w.heap.size _ _ := (bE.block _ hpr).trans DD.out
              have m0 := (tE.cell 34).trans (show _ = some (.slice none 0 0) from by rw [Array.getElem?_setIfInBounds_ne (by decide)]; exact (rep1_get _ _ _))
              have m1 := tE.frozen 34
              have tF := tE.set 34 (.slice (some ⟨W3.heap.size, 0, none⟩) 2 (grownCap W3 2 0 5))
              have dF : Duo _ w.heap.size _ _ := (Below.heap_setCell _ ⟨w.heap.size + 1, 34, none⟩ (.slice (some ⟨W3.heap.size, 0, none⟩) 2 (grownCap W3 2 0 5)) _ (by show w.heap.size ≠ w.heap.size + 1; omega)).trans dE
              have qF := qE.move (Below.heap_setCell _ ⟨w.heap.size + 1, 34, none⟩ (.slice (some ⟨W3.heap.size, 0, none⟩) 2 (grownCap W3 2 0 5)) _ (by show W3.heap.size ≠ w.heap.size + 1; omega))
              have bF := (BD.out.trans (bE.mono BD.out.size)).setCell (p := ⟨w.heap.size + 1, 34, none⟩) (by show w.heap.size ≤ w.heap.size + 1; omega) (.slice (some ⟨W3.heap.size, 0, none⟩) 2 (grownCap W3 2 0 5))
              have hq2 : q < W3.heap.size := QD.out.lt
              have qG := QD.out.move ((Below.heap_setCell _ ⟨w.heap.size + 1, 34, none⟩ (.slice (some ⟨W3.heap.size, 0, none⟩) 2 (grownCap W3 2 0 5)) _ (by exact HQN.out.1)).trans (bE.block q hq2))
              have QG := Aside0.mk qG
              clear qG
              have TF := Aside0.mk tF
              have DF := Aside0.mk dF
              have QF := Aside0.mk qF
              have BF := Aside0.mk bF
              clear bE qE tE dE tF dF qF bF TD DD BD QD
              go_wp2_with fail
              go_roundg k2
              case measure => omega
              case rel => exact ⟨-2, rfl, ⟨BF.out, .inr (.inr ⟨rfl, _, _, _, _, TF.out, DF.out, QG.out, QF.out⟩)⟩, ⟨by have := HK.out; omega⟩⟩
            · obtain ⟨rfl, q, cq, q', cq', hT, hD, hQ, hQ'⟩ := h
              have HF := Aside0.mk (show RepB wr (w.heap.size + 1) from ⟨_, _, _, _, _, hT, hD, hQ, hQ'⟩)
              have HBW := Aside0.mk hbw
              clear hT hD hQ hQ' hbw
              go_wp2_with fail
              go_ret
              exact ⟨_, rfl, HBW.out, by show w.heap.size ≤ w.heap.size + 1; omega, HF.out⟩
end Go.Proofs.YtdecjlkfpbgkgaaGreatDoor.X
namespace Go.Proofs.YtdecjlkfpbgkgaaGreatDoor.X
open Go.RowKit Go.Shelf Go.Proofs.YtdecjlkfpbgkgaaGreatDoorW.PrintWords Go.Proofs.YtdecjlkfpbgkgaaGreatDoorW.PrintLast Go.Proofs.YtdecjlkfpbgkgaaGreatDoorW.PrintMore Go.Proofs.YtdecjlkfpbgkgaaGreatDoor.F Go.Proofs.YtdecjlkfpbgkgaaGreatDoor.Pm
set_option linter.unusedVariables false
set_option linter.unusedSimpArgs false
def isQ (c : UInt8) : Bool := c == 34 || c == 92
/-- A byte as it is told between quotes. -/
def escB (c : UInt8) : Bs := if isQ c = true then [92, c] else [c]
def escL (l : Bs) : Bs := l.flatMap escB
theorem escL_append (a b : Bs) : escL (a ++ b) = escL a ++ escL b := List.flatMap_append
theorem escL_len (l : Bs) : (escL l).length = l.length + (l.count 92 + l.count 34) := by
  induction l with
  | nil => rfl
  | cons c t ih =>
    show (escB c ++ escL t).length = _
    rw [List.length_append, ih, List.length_cons, List.count_cons, List.count_cons]
    unfold escB isQ
    by_cases h1 : c = 34
    · subst h1; simp; omega
    · by_cases h2 : c = 92
      · subst h2; simp; omega
      · simp [h1, h2]; omega
theorem any_count (l : Bs) : l.any isQ = (!(l.count 92 == 0) || !(l.count 34 == 0)) := by
  induction l with
  | nil => rfl
  | cons c t ih =>
    rw [List.any_cons, ih, List.count_cons, List.count_cons]
    unfold isQ
    by_cases h1 : c = 34
    · subst h1; simp
    · by_cases h2 : c = 92
      · subst h2; simp
      · simp [h1, h2]
theorem escL_none (l : Bs) (h : l.any isQ = false) : escL l = l := by
  induction l with
  | nil => rfl
  | cons c t ih =>
    rw [List.any_cons, Bool.or_eq_false_iff] at h
    show escB c ++ escL t = _
    rw [ih h.2]
    unfold escB
    rw [if_neg (by rw [h.1]; decide)]
    rfl
set_option maxRecDepth 100000 in
theorem count_calls (s : ByteArray) (c : UInt8) (w : World) :
    Calls Tryz.prog 128 #[.string s, .string ⟨#[c]⟩] w fun e w' => e = .returned (.int .i64 ((L s).count c : Nat)) ∧ w' = w := by
  go_enter Tryz.func128, Tryz.ntmps128
  go_wp2
  rw [run_callFunc_extern Tryz.func130 (by kernel_rfl) (by kernel_rfl) (by kernel_rfl) (e := Extern.BytealgCount.count) (by kernel_rfl), Lib.run_countString]
  simp only [Result.andThen]
  rw [Oper.upon_value]
  go_wp2
  go_ret
  exact ⟨rfl, rfl⟩
theorem rep2_q (n q c q' c' : Nat) : (rep2 n q c q' c')[34]? = some (.slice (some ⟨q', 0, none⟩) 2 c') ∧ (rep2 n q c q' c')[92]? = some (.slice (some ⟨q, 0, none⟩) 2 c) ∧ (rep2 n q c q' c')[256]? = some (.slice (some ⟨n, 0, none⟩) 2 2) := by
  have s1 : (rep1 n q c).size = 257 := by unfold rep1 rep0; rw [Array.size_setIfInBounds, Array.size_setIfInBounds, repC_size]
  have s2 : ((rep1 n q c).setIfInBounds 256 (.slice (some ⟨n, 0, none⟩) 2 2)).size = 257 := by rw [Array.size_setIfInBounds, s1]
  refine ⟨?_, ?_, ?_⟩
  · unfold rep2; rw [Array.getElem?_setIfInBounds_self, if_pos (by rw [s2]; decide)]
  · unfold rep2; rw [Array.getElem?_setIfInBounds_ne (by decide), Array.getElem?_setIfInBounds_ne (by decide)]
    unfold rep1; rw [Array.getElem?_setIfInBounds_self, if_pos (by unfold rep0; rw [Array.size_setIfInBounds, repC_size]; decide)]
  · unfold rep2; rw [Array.getElem?_setIfInBounds_ne (by decide), Array.getElem?_setIfInBounds_self, if_pos (by rw [s1]; decide)]
theorem rep2_n (n q c q' c' i : Nat) (h : i < 256) (h1 : i ≠ 34) (h2 : i ≠ 92) : (rep2 n q c q' c')[i]? = some (.slice none 0 0) := by
  unfold rep2 rep1 rep0
  rw [Array.getElem?_setIfInBounds_ne (by omega), Array.getElem?_setIfInBounds_ne (by omega), Array.getElem?_setIfInBounds_ne (by omega), Array.getElem?_setIfInBounds_ne (by omega)]
  exact repC_get _ i h
theorem ne39 (a : Addr) (m c : Nat) (W : World) : (binOp .neq 39 (.slice (some a) m c) (.slice none 0 0)).run Tryz.prog W = .ok (.bool true) W := by kernel_rfl
theorem nn39 (W : World) : (binOp .neq 39 (.slice none 0 0) (.slice none 0 0)).run Tryz.prog W = .ok (.bool false) W := by kernel_rfl
end Go.Proofs.YtdecjlkfpbgkgaaGreatDoor.X
namespace Go.Proofs.YtdecjlkfpbgkgaaGreatDoor.X
open Go.RowKit Go.Shelf Go.Proofs.YtdecjlkfpbgkgaaGreatDoorW.PrintWords Go.Proofs.YtdecjlkfpbgkgaaGreatDoorW.PrintLast Go.Proofs.YtdecjlkfpbgkgaaGreatDoorW.PrintMore Go.Proofs.YtdecjlkfpbgkgaaGreatDoor.F Go.Proofs.YtdecjlkfpbgkgaaGreatDoor.Pm
set_option linter.unusedVariables false
set_option linter.unusedSimpArgs false
/-- A row of N bytes of one's own, the first of which are l. -/
def BufAt (W : World) (G N : Nat) (l : Bs) : Prop := ∃ cs : Array Value, W.heap[G]? = some (.cells cs 5 (0, 0)) ∧ cs.size = N ∧ ∀ (j : Nat) (hj : j < l.length), cs[j]? = some (.int .u8 (l[j].toNat : Int))
theorem BufAt.new {W : World} {G N base : Nat} {xs : List Value} (h : W.ownsRow base 5 1 (.slice (some ⟨G, 0, none⟩) N N) N xs) : BufAt W G N [] := by
  rcases h.2 with ⟨h1, _⟩ | ⟨g, cap, cur, h1, _, h3, _, _, h6, _⟩
  · cases h1
  · injection h1 with h1 h2 h4
    injection h1 with h1
    injection h1 with h1
    subst h1
    subst h4
    exact ⟨cur, h3, by rw [h6, Nat.mul_one], fun j hj => absurd hj (by simp)⟩
set_option maxRecDepth 100000 in
theorem BufAt.lt {W : World} {G N : Nat} {l : Bs} (h : BufAt W G N l) : G < W.heap.size := by
  obtain ⟨cs, h1, _⟩ := h
  exact (Array.getElem?_eq_some_iff.1 h1).1
theorem BufAt.move {W W' : World} {G N : Nat} {l : Bs} (h : BufAt W G N l) (e : W'.heap[G]? = W.heap[G]?) : BufAt W' G N l := by
  obtain ⟨cs, h1, h2⟩ := h
  exact ⟨cs, e.trans h1, h2⟩
theorem BufAt.val {W : World} {G N : Nat} {l : Bs} (h : BufAt W G N l) (j : Nat) (hj : j < N) : ∃ v, W.cell? ⟨G, j, none⟩ = some v := by
  obtain ⟨cs, h1, h2, _⟩ := h
  refine ⟨cs[j]'(by omega), ?_⟩
  simp only [World.cell?, h1]
  exact Array.getElem?_eq_getElem _
theorem BufAt.frozen {W : World} {G N : Nat} {l : Bs} (h : BufAt W G N l) (j : Nat) : W.frozen? ⟨G, j, none⟩ = false := by
  obtain ⟨cs, h1, h2, _⟩ := h
  simp [World.frozen?, h1]
theorem BufAt.put {W : World} {G N : Nat} {l : Bs} (h : BufAt W G N l) (c : UInt8) (hl : l.length < N) : BufAt (W.setCell ⟨G, l.length, none⟩ (.int .u8 (c.toNat : Int))) G N (l ++ [c]) := by
  obtain ⟨cs, h1, h2, h3⟩ := h
  refine ⟨_, cells_set h1 l.length _, by rw [Array.size_setIfInBounds, h2], fun j hj => ?_⟩
  rw [List.length_append, List.length_singleton] at hj
  by_cases e : j = l.length
  · subst e
    rw [Array.getElem?_setIfInBounds_self, if_pos (by omega)]
    simp
  · rw [Array.getElem?_setIfInBounds_ne (fun h => e h.symm), List.getElem_append_left (by omega)]
    exact h3 j (by omega)
theorem BufAt.text {W : World} {G N : Nat} {l : Bs} (h : BufAt W G N l) (n : Nat) (hn : l.length = n) : (convert 39 9 (.slice (some ⟨G, 0, none⟩) n n)).run Tryz.prog W = .ok (.string (M l)) W := by
  subst hn
  obtain ⟨cs, h1, h2, h3⟩ := h
  exact Lib.run_convert_whole W 39 5 9 Tryz.underlying39 Tryz.underlying5 Tryz.underlying9 G 0 (M l) (fun i hi => by
    rw [Nat.zero_add]
    simp only [World.cell?, h1]
    exact h3 i hi) l.length
theorem below_of_grown {w w' : World} (h : w.grownBy w' none) : Below w.heap.size w w' := ⟨h.os, h.tape, h.output, h.size, fun k hk => h.block k hk (by simp)⟩
theorem copy_ {P : Program} {o : Oper} {a : Act} {w : World} {K : Act → World → Prop} {Q : Exit → Act → World → Prop} (s x : Operand) (t t' : TypeId) (ho : o.op = .call { callee := .builtin .copy, args := #[s, x], argTypes := #[t, t'] }) (vs vx : Value) (hs : a.eval s = vs) (hx : a.eval x = vx) (v : Value) (w' : World)
    (hr : (Builtin.copy_ #[t, t'] o.type #[vs, vx]).run P w = .ok v w') (h : K (a.put o.dst v) w') : o.wp P a w K Q := by
  unfold Oper.wp execOp
  simp only [ho, resolve, invoke, builtin, Sem.run_bind, Sem.run_pure, Result.andThen_ok, List.map_toArray, List.map_cons, List.map_nil, hs, hx, hr]
  exact h
theorem BytesAt.copySrc {W : World} {g : Nat} {a b : UInt8} (h : BytesAt W g [a, b]) : ∀ j v, ([.int .u8 (a.toNat : Int), .int .u8 (b.toNat : Int)] : List Value)[j]? = some v → W.cell? ((⟨g, 0, none⟩ : Addr).add j) = some v := by
  intro j v hv
  have hadd : (⟨g, 0, none⟩ : Addr).add j = ⟨g, j, none⟩ := by unfold Addr.add; split <;> simp_all
  rw [hadd]
  have hj : j < 2 := (List.getElem?_eq_some_iff.1 hv).1
  have := h.cell j hj
  rw [this]
  match j, hj, hv with
  | 0, _, hv => exact hv
  | 1, _, hv => exact hv
def replT28 : Bool × List (List Nat × List Nat) := (true, [([], []), ([], []), ([], []), ([1, 2], [1, 2]), ([], []), ([], []), ([4], [4]), ([6], [6]), ([7, 5], [5, 7]), ([8], [8]), ([3, 9], [3, 9]), ([0, 10], [0, 10]), ([11, 10, 0, 1, 2, 3, 4, 5, 6, 7, 8, 9, 10, 11], [0, 2, 11])])
def replB28 : List Nat := [0, 0, 0, 6, 0, 0, 16, 80, 240, 496, 1022, 2047, 4095]
theorem repl_tab28 : rtab .any (opsOf Tryz.f126 28) = replT28 := by kernel_rfl
theorem repl_bits28 : waitsOk replT28.2 replB28 = true := by kernel_rfl
theorem info5' : ∃ i, Tryz.prog.info? 5 = some i ∧ i.zero = some (.int .u8 0) ∧ i.size = 1 ∧ i.bytes = 1 := by
  have h : (Tryz.prog.info? 5).map (fun i => (i.zero, i.size, i.bytes)) = some (some (.int .u8 0), 1, 1) := by kernel_rfl
  obtain ⟨i, hi, h2⟩ := Option.map_eq_some_iff.1 h
  simp only [Prod.mk.injEq] at h2
  exact ⟨i, hi, h2.1, h2.2.1, h2.2.2⟩
theorem escL_one (c : UInt8) : escL [c] = escB c := by simp [escL]
theorem escB_plain (c : UInt8) (h : c ≠ 34 ∧ c ≠ 92) : escB c = [c] := by unfold escB; rw [if_neg (by simp [isQ, h.1, h.2])]
theorem plain_step (t : Bs) (c : UInt8) (h : c ≠ 34 ∧ c ≠ 92) : (t ++ [c]).count 92 + (t ++ [c]).count 34 = t.count 92 + t.count 34 ∧ (t ++ [c]).any isQ = t.any isQ := by
  rw [List.count_append, List.count_append, List.any_append, List.count_singleton, List.count_singleton]
  simp [isQ, h.1, h.2]
theorem byte_cases (c : UInt8) : c = 34 ∨ c = 92 ∨ (c ≠ 34 ∧ c ≠ 92) := by
  by_cases h : c = 34
  · exact .inl h
  · by_cases h2 : c = 92
    · exact .inr (.inl h2)
    · exact .inr (.inr ⟨h, h2⟩)
set_option maxRecDepth 100000 in
set_option maxHeartbeats 8000000 in
theorem bsr_calls (p : Nat) (s : ByteArray) (w : World) (hr : RepB w p) (hs : s.size ≤ 1000000) :
    Calls Tryz.prog 126 #[.pointer (some ⟨p, 0, none⟩), .string s] w fun e w' => e = .returned (.string (M (escL (L s)))) ∧ Below w.heap.size w w' := by
  obtain ⟨n, q, cq, q', cq', hT, hD, hQ, hQ'⟩ := hr
  obtain ⟨g34, g92, g256⟩ := rep2_q n q cq q' cq'
  have t1 : w.cell? ⟨p, 256, none⟩ = some (.slice (some ⟨n, 0, none⟩) 2 2) := (hT.cell 256).trans g256
  have HT := Aside0.mk hT
  have HD := Aside0.mk hD
  have HQ := Aside0.mk (And.intro hQ hQ')
  have HG := Aside0.mk (And.intro g34 (And.intro g92 g256))
  have hz : (L s).length = s.size := rfl
  have HP := Aside0.mk (And.intro hT.lt (show n < w.heap.size from (Array.getElem?_eq_some_iff.1 hD).1))
  clear hT hD hQ hQ' g34 g92 g256
  go_enter Tryz.func126, Tryz.ntmps126
  go_upto_if 26 with (fail)
  go_cut [5, 6] (fun v5 v6 wc => v5 = .int .i64 ((escL (L s)).length : Nat) ∧ v6 = .bool ((L s).any isQ) ∧ Aside0 (Below w.heap.size w wc))
  case first =>
    obtain ⟨d, hd⟩ : ∃ d, decide ((16 : Int) ≤ (s.size : Int)) = d := ⟨_, rfl⟩
    rw [hd]
    clear hd
    cases d with
    | true =>
      go_wp2_with fail
      go_loopg [32, 5, 6] 3 (fun kq v32 v5 v6 wr => ∃ (i a : Nat) (b : Bool), v32 = .int .i64 i ∧ v5 = .int .i64 a ∧ v6 = .bool b ∧ Aside0 (a = s.size + ((if 1 ≤ i then (L s).count 92 else 0) + (if 2 ≤ i then (L s).count 34 else 0)) ∧ b = ((decide (1 ≤ i) && !((L s).count 92 == 0)) || (decide (2 ≤ i) && !((L s).count 34 == 0)))) ∧ Aside0 (Below w.heap.size w wr) ∧ Aside0 (i + kq = 3 ∧ i ≤ 2))
      case atStart => exact ⟨0, s.size, false, rfl, rfl, rfl, ⟨rfl, rfl⟩, ⟨Below.refl _ _⟩, ⟨by omega, by omega⟩⟩
      case round =>
        obtain ⟨i, a, b, rfl, rfl, rfl, HA, HB, HK⟩ := hrel
        cases gk with
        | zero => exact absurd HK.out (by omega)
        | succ k1 =>
          have hi : i = 0 ∨ i = 1 ∨ i = 2 := by have := HK.out; omega
          have hc1 : (L s).count 92 ≤ 1000000 := Nat.le_trans List.count_le_length hs
          have hc2 : (L s).count 34 ≤ 1000000 := Nat.le_trans List.count_le_length hs
          have ha : a ≤ 3000000 := by rw [HA.out.1]; split <;> split <;> omega
          have HC := Aside0.mk (And.intro hc1 hc2)
          have u1 : wr.cell? ⟨n, 0, none⟩ = some (.string ⟨#[92]⟩) := by have := HD.out.cell 0; unfold World.cell? at this ⊢; rw [HB.out.block n HP.out.2]; exact this
          have u2 : wr.cell? ⟨n, 1, none⟩ = some (.string ⟨#[34]⟩) := by have := HD.out.cell 1; unfold World.cell? at this ⊢; rw [HB.out.block n HP.out.2]; exact this
          have hT := HT.out.below HB.out HP.out.1
          have u3 : wr.cell? ⟨p, 92, none⟩ = some (.slice (some ⟨q, 0, none⟩) 2 cq) := (hT.cell 92).trans HG.out.2.1
          have u4 : wr.cell? ⟨p, 34, none⟩ = some (.slice (some ⟨q', 0, none⟩) 2 cq') := (hT.cell 34).trans HG.out.1
          have HT2 := Aside0.mk hT
          clear hT hc1 hc2
          rcases hi with rfl | rfl | rfl
          · have y0 : ((⟨#[92]⟩ : ByteArray)[0]'(by decide)).toNat = 92 := rfl
            go_wp2_with fail
            refine (count_calls s 92 wr).mono ?_
            rintro e w9 ⟨rfl, rfl⟩
            obtain ⟨k, hk⟩ : ∃ k, (L s).count 92 = k := ⟨_, rfl⟩
            have hkb : k ≤ 1000000 := by rw [← hk]; exact HC.out.1
            have HE := Aside0.mk hk
            rw [hk]
            clear hk
            by_cases h0 : k = 0
            · subst h0
              go_wp2_with fail
              go_roundg k1
              case measure => omega
              case rel => exact ⟨1, a, b, rfl, rfl, rfl, ⟨by rw [HA.out.1]; simp [HE.out], by rw [HA.out.2]; simp [HE.out]⟩, HB, ⟨by have := HK.out; omega, by omega⟩⟩
            · have hne : ((k : Int) != 0) = true := by rw [bne_iff_ne]; omega
              go_wp2_with fail
              go_quiet (fail)
              have HBn := Aside0.mk (HB.out.trans (pw_below_drewN (Below.refl _ _) nq))
              go_wp2_with fail
              go_roundg k1
              case measure => omega
              case rel => exact ⟨1, a + k, true, rfl, congrArg (Value.int IntKind.i64) (by omega), rfl, ⟨by rw [HA.out.1]; simp [HE.out] <;> omega, by simp [HE.out, h0]⟩, ⟨HBn.out⟩, ⟨by have := HK.out; omega, by omega⟩⟩
          · have y0 : ((⟨#[34]⟩ : ByteArray)[0]'(by decide)).toNat = 34 := rfl
            go_wp2_with fail
            refine (count_calls s 34 wr).mono ?_
            rintro e w9 ⟨rfl, rfl⟩
            obtain ⟨k, hk⟩ : ∃ k, (L s).count 34 = k := ⟨_, rfl⟩
            have hkb : k ≤ 1000000 := by rw [← hk]; exact HC.out.2
            have HE := Aside0.mk hk
            rw [hk]
            clear hk
            by_cases h0 : k = 0
            · subst h0
              go_wp2_with fail
              go_roundg k1
              case measure => omega
              case rel => exact ⟨2, a, b, rfl, rfl, rfl, ⟨by rw [HA.out.1]; simp [HE.out], by rw [HA.out.2]; simp [HE.out]⟩, HB, ⟨by have := HK.out; omega, by omega⟩⟩
            · have hne : ((k : Int) != 0) = true := by rw [bne_iff_ne]; omega
              go_wp2_with fail
              go_quiet (fail)
              have HBn := Aside0.mk (HB.out.trans (pw_below_drewN (Below.refl _ _) nq))
              go_wp2_with fail
              go_roundg k1
              case measure => omega
              case rel => exact ⟨2, a + k, true, rfl, congrArg (Value.int IntKind.i64) (by omega), rfl, ⟨by rw [HA.out.1]; simp [HE.out] <;> omega, by simp [HE.out, h0]⟩, ⟨HBn.out⟩, ⟨by have := HK.out; omega, by omega⟩⟩
          · go_wp2_with fail
            go_meet
            case rel => exact ⟨congrArg (fun z : Nat => Value.int IntKind.i64 (z : Int)) (by rw [HA.out.1, escL_len]; rfl), congrArg Value.bool (by rw [HA.out.2, any_count]; rfl), HB⟩
    | false =>
      go_wp2_with fail
      go_loopg [10, 5, 6] (s.size + 1) (fun kq v10 v5 v6 wr => ∃ (i a : Nat) (b : Bool), v10 = .int .i64 i ∧ v5 = .int .i64 a ∧ v6 = .bool b ∧ Aside0 (a = s.size + (((L s).take i).count 92 + ((L s).take i).count 34) ∧ b = ((L s).take i).any isQ) ∧ Aside0 (Below w.heap.size w wr) ∧ Aside0 (i + kq = s.size + 1 ∧ i ≤ s.size))
      case atStart => exact ⟨0, s.size, false, rfl, rfl, rfl, ⟨rfl, rfl⟩, ⟨Below.refl _ _⟩, ⟨by omega, by omega⟩⟩
      case round =>
        obtain ⟨i, a, b, rfl, rfl, rfl, HA, HB, HK⟩ := hrel
        cases gk with
        | zero => exact absurd HK.out (by omega)
        | succ k1 =>
          have hc1 : ((L s).take i).count 92 ≤ s.size := Nat.le_trans List.count_le_length (by rw [List.length_take]; omega)
          have hc2 : ((L s).take i).count 34 ≤ s.size := Nat.le_trans List.count_le_length (by rw [List.length_take]; omega)
          have ha : a ≤ 3000000 := by rw [HA.out.1]; omega
          clear hc1 hc2
          by_cases hi : i < s.size
          · have hlt : decide ((i : Int) < (s.size : Int)) = true := decide_eq_true (by omega)
            have hlt2 : decide (i < s.size) = true := decide_eq_true (by omega)
            have hT := HT.out.below HB.out HP.out.1
            have u3 : wr.cell? ⟨p, 92, none⟩ = some (.slice (some ⟨q, 0, none⟩) 2 cq) := (hT.cell 92).trans HG.out.2.1
            have u4 : wr.cell? ⟨p, 34, none⟩ = some (.slice (some ⟨q', 0, none⟩) 2 cq') := (hT.cell 34).trans HG.out.1
            have HT2 := Aside0.mk hT
            have HTK := Aside0.mk (List.take_succ_eq_append_getElem (l := L s) (i := i) hi)
            have hne := ne39
            have hnn := nn39
            have hx : (s[i]'hi).toNat < 256 := UInt8.toNat_lt _
            have hx1 : ((s[i]'hi).toNat : Int) < 256 := by omega
            clear hT
            rcases byte_cases ((L s)[i]'hi) with hc | hc | hc
            · have y0 : (s[i]'hi).toNat = 34 := by rw [show s[i]'hi = (L s)[i]'hi from rfl, hc]; rfl
              have HN := Aside0.mk (show ((L s).take (i + 1)).count 92 + ((L s).take (i + 1)).count 34 = (((L s).take i).count 92 + ((L s).take i).count 34) + 1 ∧ ((L s).take (i + 1)).any isQ = true from by
                rw [HTK.out, List.count_append, List.count_append, List.any_append, hc]
                refine ⟨?_, by simp [isQ]⟩
                simp
                omega)
              clear hc
              go_wp2_with fail
              go_roundg k1
              case measure => omega
              case rel => exact ⟨i + 1, a + 1, true, congrArg (Value.int IntKind.i64) (show (i : Int) + 1 = ((i + 1 : Nat) : Int) from rfl), congrArg (Value.int IntKind.i64) (show (a : Int) + 1 = ((a + 1 : Nat) : Int) from rfl), rfl, ⟨by rw [HA.out.1, HN.out.1]; omega, HN.out.2.symm⟩, HB, ⟨by have := HK.out; omega, by omega⟩⟩
            · have y0 : (s[i]'hi).toNat = 92 := by rw [show s[i]'hi = (L s)[i]'hi from rfl, hc]; rfl
              have HN := Aside0.mk (show ((L s).take (i + 1)).count 92 + ((L s).take (i + 1)).count 34 = (((L s).take i).count 92 + ((L s).take i).count 34) + 1 ∧ ((L s).take (i + 1)).any isQ = true from by
                rw [HTK.out, List.count_append, List.count_append, List.any_append, hc]
                refine ⟨?_, by simp [isQ]⟩
                simp
                omega)
              clear hc
              go_wp2_with fail
              go_roundg k1
              case measure => omega
              case rel => exact ⟨i + 1, a + 1, true, congrArg (Value.int IntKind.i64) (show (i : Int) + 1 = ((i + 1 : Nat) : Int) from rfl), congrArg (Value.int IntKind.i64) (show (a : Int) + 1 = ((a + 1 : Nat) : Int) from rfl), rfl, ⟨by rw [HA.out.1, HN.out.1]; omega, HN.out.2.symm⟩, HB, ⟨by have := HK.out; omega, by omega⟩⟩
            · have u5 : wr.cell? ⟨p, (s[i]'hi).toNat, none⟩ = some (.slice none 0 0) := (HT2.out.cell _).trans (rep2_n n q cq q' cq' _ hx (fun h => hc.1 (UInt8.toNat_inj.1 h)) (fun h => hc.2 (UInt8.toNat_inj.1 h)))
              have HN := Aside0.mk (show ((L s).take (i + 1)).count 92 + ((L s).take (i + 1)).count 34 = (((L s).take i).count 92 + ((L s).take i).count 34) ∧ ((L s).take (i + 1)).any isQ = ((L s).take i).any isQ from by
                rw [HTK.out]
                exact plain_step _ _ hc)
              clear hc
              go_wp2_with fail
              go_roundg k1
              case measure => omega
              case rel => exact ⟨i + 1, a, b, congrArg (Value.int IntKind.i64) (show (i : Int) + 1 = ((i + 1 : Nat) : Int) from rfl), rfl, rfl, ⟨by rw [HA.out.1, HN.out.1], by rw [HA.out.2, HN.out.2]⟩, HB, ⟨by have := HK.out; omega, by omega⟩⟩
          · have hlt : decide ((i : Int) < (s.size : Int)) = false := decide_eq_false (by omega)
            have hall : (L s).take i = L s := List.take_of_length_le (by omega)
            rw [hall] at HA
            go_wp2_with fail
            go_meet
            case rel => exact ⟨congrArg (fun z : Nat => Value.int IntKind.i64 (z : Int)) (by rw [HA.out.1, escL_len]; rfl), congrArg Value.bool HA.out.2, HB⟩
  case rest =>
    obtain ⟨rfl, rfl, HB⟩ := hcut
    have HE := Aside0.mk (show (escL (L s)).length ≤ 3000000 from by
      rw [escL_len]
      have h1 : (L s).count 92 ≤ s.size := List.count_le_length
      have h2 : (L s).count 34 ≤ s.size := List.count_le_length
      omega)
    obtain ⟨b, hb⟩ : ∃ b, (L s).any isQ = b := ⟨_, rfl⟩
    rw [hb]
    have HA := Aside0.mk hb
    clear hb
    cases b with
    | false =>
      go_wp2_with fail
      go_ret
      rw [escL_none _ HA.out]
      exact ⟨rfl, HB.out⟩
    | true =>
      obtain ⟨N, hN⟩ : ∃ N, (escL (L s)).length = N := ⟨_, rfl⟩
      have HN := Aside0.mk hN
      have hNb : N ≤ 3000000 := by rw [← hN]; exact HE.out
      rw [hN]
      clear hN
      obtain ⟨i5, e1, e2, e3, e4⟩ := info5'
      obtain ⟨W1, hmk, hown, hgr⟩ := run_make_full (P := Tryz.prog) wc wc.heap.size 39 5 i5 (.int .u8 0) 1 Tryz.underlying39 e1 e2 e3 .i64 .i64 N (by rw [e4]; omega) (by unfold maxLen; omega) (Nat.le_refl _)
      have hB1 := BufAt.new hown
      have HBu0 := Aside0.mk hB1
      have HBW1 := Aside0.mk (HB.out.trans ((below_of_grown hgr).mono HB.out.size))
      have hlG : w.heap.size ≤ wc.heap.size := HB.out.size
      clear hB1 hown hgr
      obtain ⟨Gb, hGb⟩ : ∃ Gb, wc.heap.size = Gb := ⟨_, rfl⟩
      rw [hGb] at hmk HBu0 hlG
      have HPG := Aside0.mk (show w.heap.size ≤ Gb from hlG)
      clear hlG hGb
      go_wp2_with fail
      clear hmk e1 e2 e3 e4
      go_loopg [13, 14] (s.size + 1) (fun kq v13 v14 wr => ∃ (i j : Nat), v13 = .int .i64 j ∧ v14 = .int .i64 i ∧ Aside0 (j = (escL ((L s).take i)).length) ∧ Aside0 (BufAt wr Gb N (escL ((L s).take i))) ∧ Aside0 (Below w.heap.size w wr) ∧ Aside0 (i + kq = s.size + 1 ∧ i ≤ s.size))
      case atStart => exact ⟨0, 0, rfl, rfl, ⟨rfl⟩, ⟨HBu0.out⟩, HBW1, ⟨by omega, by omega⟩⟩
      case round =>
        obtain ⟨i, j, rfl, rfl, HJ, HBu, HB2, HK⟩ := hrel
        cases gk with
        | zero => exact absurd HK.out (by omega)
        | succ k1 =>
          by_cases hi : i < s.size
          · have hlt : decide ((i : Int) < (s.size : Int)) = true := decide_eq_true (by omega)
            have hlt2 : decide (i < s.size) = true := decide_eq_true (by omega)
            have hT := HT.out.below HB2.out HP.out.1
            have HT2 := Aside0.mk hT
            have HTK := Aside0.mk (List.take_succ_eq_append_getElem (l := L s) (i := i) hi)
            have HLE := Aside0.mk (show (escL ((L s).take (i + 1))).length ≤ N from by
              rw [← HN.out]
              conv => rhs; rw [← List.take_append_drop (i + 1) (L s), escL_append, List.length_append]
              omega)
            have hne := ne39
            have hnn := nn39
            have hx : (s[i]'hi).toNat < 256 := UInt8.toNat_lt _
            have hx1 : ((s[i]'hi).toNat : Int) < 256 := by omega
            clear hT
            rcases byte_cases ((L s)[i]'hi) with hc | hc | hc
            · have y0 : (s[i]'hi).toNat = 34 := by rw [show s[i]'hi = (L s)[i]'hi from rfl, hc]; rfl
              have hE2 : escL ((L s).take (i + 1)) = (escL ((L s).take i) ++ [92]) ++ [34] := by rw [HTK.out, escL_append, hc]; simp [escL, escB, isQ]
              have hl2 : j + 2 ≤ N := by have := HLE.out; rw [hE2] at this; simp only [List.length_append, List.length_singleton] at this; rw [← HJ.out] at this; omega
              have HE2 := Aside0.mk hE2
              clear hc hE2
              have u6 : wr.cell? ⟨p, 34, none⟩ = some (.slice (some ⟨q', 0, none⟩) 2 cq') := (HT2.out.cell 34).trans HG.out.1
              go_upto_region 28 with (fail)
              have hb1 : (0 : Int) ≤ (j : Int) := by omega
              have hNj : (N = j) = False := eq_false (by omega)
              have hb2 : (j : Int) ≤ (N : Int) := by omega
              refine start_ (n := 13) (S := fun w' => w'.cell? ⟨p, 34, none⟩ = some (.slice (some ⟨q', 0, none⟩) 2 cq')) (ds := []) #[false, false, false, false, false, false, false, false, false, false, false, false, false] (by kernel_rfl) rfl rfl u6 (fun hHeld => ?_)
              refine with_tabW repl_tab28 repl_bits28 (fun HT_ HW_ => ?_)
              have hd : Below wr.heap.size wr wr.drew := (Below.refl _ _).drew
              have KB := Aside0.mk (HBu.out.move (hd.block Gb HBu.out.lt))
              have KW := Aside0.mk (HB2.out.trans (hd.mono HB2.out.size))
              have KQ := Aside0.mk (show BytesAt wr.drew q' [92, 34] from (HQ.out.2.move (HB2.out.block _ HQ.out.2.lt)).move (hd.block _ (Nat.lt_of_lt_of_le HQ.out.2.lt HB2.out.size)))
              clear hd
              generalize World.drew _ = v0 at KB KW KQ hHeld ⊢
              refine pure_ (i := 0) (N := some 102) (v := .int .i64 j) #[true, false, false, false, false, false, false, false, false, false, false, false, false] rfl rfl (any_of HT_.out (by kernel_rfl)) (fun _ _ _ h => h) (Or.inl ⟨by rfl, fun w' => by go_simp⟩) rfl ?_
              simp only [Act.put, List.setIfInBounds_toArray, List.set_cons_zero, List.set_cons_succ]
              refine pure_ (i := 1) (N := some 103) (v := .slice (some ⟨Gb, 0, none⟩) N N) #[true, true, false, false, false, false, false, false, false, false, false, false, false] rfl rfl (any_of HT_.out (by kernel_rfl)) (fun _ _ _ h => h) (Or.inl ⟨by rfl, fun w' => by go_simp⟩) rfl ?_
              simp only [Act.put, List.setIfInBounds_toArray, List.set_cons_zero, List.set_cons_succ]
              refine pure_ (i := 2) (N := some 104) (v := .int .i64 j) #[true, true, true, false, false, false, false, false, false, false, false, false, false] rfl rfl (any_of HT_.out (by kernel_rfl)) (fun _ _ _ h => h) (Or.inl ⟨by rfl, fun w' => by go_simp⟩) rfl ?_
              simp only [Act.put, List.setIfInBounds_toArray, List.set_cons_zero, List.set_cons_succ]
              refine pure_ (i := 3) (N := some 105) (v := .slice (some ⟨Gb, j, none⟩) (N - j) (N - j)) #[true, true, true, true, false, false, false, false, false, false, false, false, false] rfl rfl (any_of HT_.out (by kernel_rfl)) (fun _ _ _ h => h) (Or.inl ⟨by rfl, fun w' => by go_simp⟩) rfl ?_
              simp only [Act.put, List.setIfInBounds_toArray, List.set_cons_zero, List.set_cons_succ]
              refine pure_ (i := 4) (N := some 106) (v := .pointer (some ⟨p, 0, none⟩)) #[true, true, true, true, true, false, false, false, false, false, false, false, false] rfl rfl (any_of HT_.out (by kernel_rfl)) (fun _ _ _ h => h) (Or.inl ⟨by rfl, fun w' => by go_simp⟩) rfl ?_
              simp only [Act.put, List.setIfInBounds_toArray, List.set_cons_zero, List.set_cons_succ]
              refine pure_ (i := 5) (N := some 107) (v := .int .u8 34) #[true, true, true, true, true, true, false, false, false, false, false, false, false] rfl rfl (any_of HT_.out (by kernel_rfl)) (fun _ _ _ h => h) (Or.inl ⟨by rfl, fun w' => by go_simp⟩) rfl ?_
              simp only [Act.put, List.setIfInBounds_toArray, List.set_cons_zero, List.set_cons_succ]
              refine pure_ (i := 6) (N := some 108) (v := .pointer (some ⟨p, 0, none⟩)) #[true, true, true, true, true, true, true, false, false, false, false, false, false] rfl rfl (any_of HT_.out (by kernel_rfl)) (fun _ _ _ h => h) (Or.inl ⟨by rfl, fun w' => by go_simp⟩) rfl ?_
              simp only [Act.put, List.setIfInBounds_toArray, List.set_cons_zero, List.set_cons_succ]
              refine pure_ (i := 7) (N := some 109) (v := .pointer (some ⟨p, 0, none⟩)) #[true, true, true, true, true, true, true, true, false, false, false, false, false] rfl rfl (any_of HT_.out (by kernel_rfl)) (fun _ _ _ h => h) (Or.inl ⟨by rfl, fun w' => by go_simp⟩) rfl ?_
              simp only [Act.put, List.setIfInBounds_toArray, List.set_cons_zero, List.set_cons_succ]
              refine pure_ (i := 8) (N := some 110) (v := .pointer (some ⟨p, 34, none⟩)) #[true, true, true, true, true, true, true, true, true, false, false, false, false] rfl rfl (any_of HT_.out (by kernel_rfl)) (fun _ _ _ h => h) (Or.inl ⟨by rfl, fun w' => by go_simp⟩) rfl ?_
              simp only [Act.put, List.setIfInBounds_toArray, List.set_cons_zero, List.set_cons_succ]
              refine take_ (i := 9) (N := some 111) (v := .slice (some ⟨q', 0, none⟩) 2 cq') #[true, true, true, true, true, true, true, true, true, true, false, false, false] rfl rfl (take_ofW HT_.out HW_.out (by kernel_rfl)) (fun _ _ _ h => h) (Or.inl ⟨by rfl, fun w' hS => by go_simp⟩) hHeld rfl ?_
              simp only [Act.put, List.setIfInBounds_toArray, List.set_cons_zero, List.set_cons_succ]
              refine one_ (i := 10) (N := some 112) #[true, true, true, true, true, true, true, true, true, true, true, false, false] rfl rfl (one_of HT_.out (by kernel_rfl)) (by decide) (fun K hK => ?_)
              rw [if_pos (by rfl)]
              have cp : (Builtin.copy_ #[39, 39] 3 #[.slice (some ⟨Gb, j, none⟩) (N - j) (N - j), .slice (some ⟨q', 0, none⟩) 2 cq']).run Tryz.prog v0 = .ok (.int .i64 2) ((v0.setCell ⟨Gb, j, none⟩ (.int .u8 92)).setCell ⟨Gb, j + 1, none⟩ (.int .u8 34)) := run_copy_cells v0 39 39 3 5 Gb j (N - j) (N - j) ⟨q', 0, none⟩ 2 cq' [(.int .u8 92), (.int .u8 34)] Tryz.underlying39 (by kernel_rfl) (by show 2 = min 2 (N - j); omega) (KQ.out.copySrc) (fun t ht => by obtain ⟨v, hv⟩ := KB.out.val (j + t) (by have : t < 2 := ht; omega); rw [hv]; rfl) (fun t _ => KB.out.frozen (j + t)) (fun v hv => by simp only [List.mem_cons, List.not_mem_nil, or_false] at hv; rcases hv with rfl | rfl <;> rfl)
              refine copy_ (.tmp 105) (.tmp 111) 39 39 rfl (.slice (some ⟨Gb, j, none⟩) (N - j) (N - j)) (.slice (some ⟨q', 0, none⟩) 2 cq') (by rfl) (by rfl) _ _ cp ?_
              have hwr : IntKind.i64.wrap ((j : Int) + 2) = (j : Int) + 2 := (i64_w _).trans (by unfold wrap64; omega)
              have hne1 : p ≠ Gb := by have := HP.out.1; have := HPG.out; omega
              have k1_ := KB.out.put 92 (by rw [← HJ.out]; omega)
              have k2_ := k1_.put 34 (by rw [List.length_append, List.length_singleton, ← HJ.out]; omega)
              rw [List.length_append, List.length_singleton, ← HJ.out, ← HE2.out] at k2_
              have w2_ := (KW.out.setCell (p := ⟨Gb, j, none⟩) HPG.out (.int .u8 92)).setCell (p := ⟨Gb, j + 1, none⟩) HPG.out (.int .u8 34)
              have s2_ : ((v0.setCell ⟨Gb, j, none⟩ (.int .u8 92)).setCell ⟨Gb, j + 1, none⟩ (.int .u8 34)).cell? ⟨p, 34, none⟩ = some (.slice (some ⟨q', 0, none⟩) 2 cq') := by
                rw [World.cell?_setCell_other _ _ _ _ (fun h => hne1 (congrArg Addr.block h).symm), World.cell?_setCell_other _ _ _ _ (fun h => hne1 (congrArg Addr.block h).symm)]
                exact hHeld
              have KB5 := Aside0.mk (show BufAt ((v0.setCell ⟨Gb, j, none⟩ (.int .u8 92)).setCell ⟨Gb, j + 1, none⟩ (.int .u8 34)) Gb N (escL ((L s).take (i + 1))) from k2_)
              have KW5 := Aside0.mk (show Below w.heap.size w ((v0.setCell ⟨Gb, j, none⟩ (.int .u8 92)).setCell ⟨Gb, j + 1, none⟩ (.int .u8 34)) from w2_)
              clear k1_ k2_ w2_ cp KB KW KQ hHeld
              generalize ((v0.setCell ⟨Gb, j, none⟩ (.int .u8 92)).setCell ⟨Gb, j + 1, none⟩ (.int .u8 34)) = W5 at KB5 KW5 s2_ ⊢
              refine hK.out _ _ s2_ (fun hHeld => ?_)
              clear hK K
              simp only [Act.put, List.setIfInBounds_toArray, List.set_cons_zero, List.set_cons_succ]
              refine pure_ (i := 11) (N := some 113) (v := .int .i64 ((j + 2 : Nat) : Int)) #[true, true, true, true, true, true, true, true, true, true, true, true, false] rfl rfl (any_of HT_.out (by kernel_rfl)) (fun _ _ _ h => h) (Or.inl ⟨by rfl, fun w' => by go_simp⟩) rfl ?_
              simp only [Act.put, List.setIfInBounds_toArray, List.set_cons_zero, List.set_cons_succ]
              refine pure_ (i := 12) (N := some 13) (v := .int .i64 ((j + 2 : Nat) : Int)) #[true, true, true, true, true, true, true, true, true, true, true, true, true] rfl rfl (any_of HT_.out (by kernel_rfl)) (fun _ _ _ h => h) (Or.inl ⟨by rfl, fun w' => by go_simp⟩) rfl ?_
              simp only [Act.put, List.setIfInBounds_toArray, List.set_cons_zero, List.set_cons_succ]
              refine done_ (done_of HT_.out (by kernel_rfl)) ?_
              clear hHeld s2_ hNj hb1 hb2 hwr
              have HL2 := Aside0.mk (show j + 2 = (escL ((L s).take (i + 1))).length from by rw [HE2.out]; simp only [List.length_append, List.length_singleton]; rw [← HJ.out])
              go_wp2_with fail
              go_roundg k1
              case measure => omega
              case rel => exact ⟨i + 1, j + 2, rfl, congrArg (Value.int IntKind.i64) (show (i : Int) + 1 = ((i + 1 : Nat) : Int) from rfl), HL2, KB5, KW5, ⟨by have := HK.out; omega, by omega⟩⟩
            · have y0 : (s[i]'hi).toNat = 92 := by rw [show s[i]'hi = (L s)[i]'hi from rfl, hc]; rfl
              have hE2 : escL ((L s).take (i + 1)) = (escL ((L s).take i) ++ [92]) ++ [92] := by rw [HTK.out, escL_append, hc]; simp [escL, escB, isQ]
              have hl2 : j + 2 ≤ N := by have := HLE.out; rw [hE2] at this; simp only [List.length_append, List.length_singleton] at this; rw [← HJ.out] at this; omega
              have HE2 := Aside0.mk hE2
              clear hc hE2
              have u6 : wr.cell? ⟨p, 92, none⟩ = some (.slice (some ⟨q, 0, none⟩) 2 cq) := (HT2.out.cell 92).trans HG.out.2.1
              go_upto_region 28 with (fail)
              have hb1 : (0 : Int) ≤ (j : Int) := by omega
              have hNj : (N = j) = False := eq_false (by omega)
              have hb2 : (j : Int) ≤ (N : Int) := by omega
              refine start_ (n := 13) (S := fun w' => w'.cell? ⟨p, 92, none⟩ = some (.slice (some ⟨q, 0, none⟩) 2 cq)) (ds := []) #[false, false, false, false, false, false, false, false, false, false, false, false, false] (by kernel_rfl) rfl rfl u6 (fun hHeld => ?_)
              refine with_tabW repl_tab28 repl_bits28 (fun HT_ HW_ => ?_)
              have hd : Below wr.heap.size wr wr.drew := (Below.refl _ _).drew
              have KB := Aside0.mk (HBu.out.move (hd.block Gb HBu.out.lt))
              have KW := Aside0.mk (HB2.out.trans (hd.mono HB2.out.size))
              have KQ := Aside0.mk (show BytesAt wr.drew q [92, 92] from (HQ.out.1.move (HB2.out.block _ HQ.out.1.lt)).move (hd.block _ (Nat.lt_of_lt_of_le HQ.out.1.lt HB2.out.size)))
              clear hd
              generalize World.drew _ = v0 at KB KW KQ hHeld ⊢
              refine pure_ (i := 0) (N := some 102) (v := .int .i64 j) #[true, false, false, false, false, false, false, false, false, false, false, false, false] rfl rfl (any_of HT_.out (by kernel_rfl)) (fun _ _ _ h => h) (Or.inl ⟨by rfl, fun w' => by go_simp⟩) rfl ?_
              simp only [Act.put, List.setIfInBounds_toArray, List.set_cons_zero, List.set_cons_succ]
              refine pure_ (i := 1) (N := some 103) (v := .slice (some ⟨Gb, 0, none⟩) N N) #[true, true, false, false, false, false, false, false, false, false, false, false, false] rfl rfl (any_of HT_.out (by kernel_rfl)) (fun _ _ _ h => h) (Or.inl ⟨by rfl, fun w' => by go_simp⟩) rfl ?_
              simp only [Act.put, List.setIfInBounds_toArray, List.set_cons_zero, List.set_cons_succ]
              refine pure_ (i := 2) (N := some 104) (v := .int .i64 j) #[true, true, true, false, false, false, false, false, false, false, false, false, false] rfl rfl (any_of HT_.out (by kernel_rfl)) (fun _ _ _ h => h) (Or.inl ⟨by rfl, fun w' => by go_simp⟩) rfl ?_
              simp only [Act.put, List.setIfInBounds_toArray, List.set_cons_zero, List.set_cons_succ]
              refine pure_ (i := 3) (N := some 105) (v := .slice (some ⟨Gb, j, none⟩) (N - j) (N - j)) #[true, true, true, true, false, false, false, false, false, false, false, false, false] rfl rfl (any_of HT_.out (by kernel_rfl)) (fun _ _ _ h => h) (Or.inl ⟨by rfl, fun w' => by go_simp⟩) rfl ?_
              simp only [Act.put, List.setIfInBounds_toArray, List.set_cons_zero, List.set_cons_succ]
              refine pure_ (i := 4) (N := some 106) (v := .pointer (some ⟨p, 0, none⟩)) #[true, true, true, true, true, false, false, false, false, false, false, false, false] rfl rfl (any_of HT_.out (by kernel_rfl)) (fun _ _ _ h => h) (Or.inl ⟨by rfl, fun w' => by go_simp⟩) rfl ?_
              simp only [Act.put, List.setIfInBounds_toArray, List.set_cons_zero, List.set_cons_succ]
              refine pure_ (i := 5) (N := some 107) (v := .int .u8 92) #[true, true, true, true, true, true, false, false, false, false, false, false, false] rfl rfl (any_of HT_.out (by kernel_rfl)) (fun _ _ _ h => h) (Or.inl ⟨by rfl, fun w' => by go_simp⟩) rfl ?_
              simp only [Act.put, List.setIfInBounds_toArray, List.set_cons_zero, List.set_cons_succ]
              refine pure_ (i := 6) (N := some 108) (v := .pointer (some ⟨p, 0, none⟩)) #[true, true, true, true, true, true, true, false, false, false, false, false, false] rfl rfl (any_of HT_.out (by kernel_rfl)) (fun _ _ _ h => h) (Or.inl ⟨by rfl, fun w' => by go_simp⟩) rfl ?_
              simp only [Act.put, List.setIfInBounds_toArray, List.set_cons_zero, List.set_cons_succ]
              refine pure_ (i := 7) (N := some 109) (v := .pointer (some ⟨p, 0, none⟩)) #[true, true, true, true, true, true, true, true, false, false, false, false, false] rfl rfl (any_of HT_.out (by kernel_rfl)) (fun _ _ _ h => h) (Or.inl ⟨by rfl, fun w' => by go_simp⟩) rfl ?_
              simp only [Act.put, List.setIfInBounds_toArray, List.set_cons_zero, List.set_cons_succ]
              refine pure_ (i := 8) (N := some 110) (v := .pointer (some ⟨p, 92, none⟩)) #[true, true, true, true, true, true, true, true, true, false, false, false, false] rfl rfl (any_of HT_.out (by kernel_rfl)) (fun _ _ _ h => h) (Or.inl ⟨by rfl, fun w' => by go_simp⟩) rfl ?_
              simp only [Act.put, List.setIfInBounds_toArray, List.set_cons_zero, List.set_cons_succ]
              refine take_ (i := 9) (N := some 111) (v := .slice (some ⟨q, 0, none⟩) 2 cq) #[true, true, true, true, true, true, true, true, true, true, false, false, false] rfl rfl (take_ofW HT_.out HW_.out (by kernel_rfl)) (fun _ _ _ h => h) (Or.inl ⟨by rfl, fun w' hS => by go_simp⟩) hHeld rfl ?_
              simp only [Act.put, List.setIfInBounds_toArray, List.set_cons_zero, List.set_cons_succ]
              refine one_ (i := 10) (N := some 112) #[true, true, true, true, true, true, true, true, true, true, true, false, false] rfl rfl (one_of HT_.out (by kernel_rfl)) (by decide) (fun K hK => ?_)
              rw [if_pos (by rfl)]
              have cp : (Builtin.copy_ #[39, 39] 3 #[.slice (some ⟨Gb, j, none⟩) (N - j) (N - j), .slice (some ⟨q, 0, none⟩) 2 cq]).run Tryz.prog v0 = .ok (.int .i64 2) ((v0.setCell ⟨Gb, j, none⟩ (.int .u8 92)).setCell ⟨Gb, j + 1, none⟩ (.int .u8 92)) := run_copy_cells v0 39 39 3 5 Gb j (N - j) (N - j) ⟨q, 0, none⟩ 2 cq [(.int .u8 92), (.int .u8 92)] Tryz.underlying39 (by kernel_rfl) (by show 2 = min 2 (N - j); omega) (KQ.out.copySrc) (fun t ht => by obtain ⟨v, hv⟩ := KB.out.val (j + t) (by have : t < 2 := ht; omega); rw [hv]; rfl) (fun t _ => KB.out.frozen (j + t)) (fun v hv => by simp only [List.mem_cons, List.not_mem_nil, or_false] at hv; rcases hv with rfl | rfl <;> rfl)
              refine copy_ (.tmp 105) (.tmp 111) 39 39 rfl (.slice (some ⟨Gb, j, none⟩) (N - j) (N - j)) (.slice (some ⟨q, 0, none⟩) 2 cq) (by rfl) (by rfl) _ _ cp ?_
              have hwr : IntKind.i64.wrap ((j : Int) + 2) = (j : Int) + 2 := (i64_w _).trans (by unfold wrap64; omega)
              have hne1 : p ≠ Gb := by have := HP.out.1; have := HPG.out; omega
              have k1_ := KB.out.put 92 (by rw [← HJ.out]; omega)
              have k2_ := k1_.put 92 (by rw [List.length_append, List.length_singleton, ← HJ.out]; omega)
              rw [List.length_append, List.length_singleton, ← HJ.out, ← HE2.out] at k2_
              have w2_ := (KW.out.setCell (p := ⟨Gb, j, none⟩) HPG.out (.int .u8 92)).setCell (p := ⟨Gb, j + 1, none⟩) HPG.out (.int .u8 92)
              have s2_ : ((v0.setCell ⟨Gb, j, none⟩ (.int .u8 92)).setCell ⟨Gb, j + 1, none⟩ (.int .u8 92)).cell? ⟨p, 92, none⟩ = some (.slice (some ⟨q, 0, none⟩) 2 cq) := by
                rw [World.cell?_setCell_other _ _ _ _ (fun h => hne1 (congrArg Addr.block h).symm), World.cell?_setCell_other _ _ _ _ (fun h => hne1 (congrArg Addr.block h).symm)]
                exact hHeld
              have KB5 := Aside0.mk (show BufAt ((v0.setCell ⟨Gb, j, none⟩ (.int .u8 92)).setCell ⟨Gb, j + 1, none⟩ (.int .u8 92)) Gb N (escL ((L s).take (i + 1))) from k2_)
              have KW5 := Aside0.mk (show Below w.heap.size w ((v0.setCell ⟨Gb, j, none⟩ (.int .u8 92)).setCell ⟨Gb, j + 1, none⟩ (.int .u8 92)) from w2_)
              clear k1_ k2_ w2_ cp KB KW KQ hHeld
              generalize ((v0.setCell ⟨Gb, j, none⟩ (.int .u8 92)).setCell ⟨Gb, j + 1, none⟩ (.int .u8 92)) = W5 at KB5 KW5 s2_ ⊢
              refine hK.out _ _ s2_ (fun hHeld => ?_)
              clear hK K
              simp only [Act.put, List.setIfInBounds_toArray, List.set_cons_zero, List.set_cons_succ]
              refine pure_ (i := 11) (N := some 113) (v := .int .i64 ((j + 2 : Nat) : Int)) #[true, true, true, true, true, true, true, true, true, true, true, true, false] rfl rfl (any_of HT_.out (by kernel_rfl)) (fun _ _ _ h => h) (Or.inl ⟨by rfl, fun w' => by go_simp⟩) rfl ?_
              simp only [Act.put, List.setIfInBounds_toArray, List.set_cons_zero, List.set_cons_succ]
              refine pure_ (i := 12) (N := some 13) (v := .int .i64 ((j + 2 : Nat) : Int)) #[true, true, true, true, true, true, true, true, true, true, true, true, true] rfl rfl (any_of HT_.out (by kernel_rfl)) (fun _ _ _ h => h) (Or.inl ⟨by rfl, fun w' => by go_simp⟩) rfl ?_
              simp only [Act.put, List.setIfInBounds_toArray, List.set_cons_zero, List.set_cons_succ]
              refine done_ (done_of HT_.out (by kernel_rfl)) ?_
              clear hHeld s2_ hNj hb1 hb2 hwr
              have HL2 := Aside0.mk (show j + 2 = (escL ((L s).take (i + 1))).length from by rw [HE2.out]; simp only [List.length_append, List.length_singleton]; rw [← HJ.out])
              go_wp2_with fail
              go_roundg k1
              case measure => omega
              case rel => exact ⟨i + 1, j + 2, rfl, congrArg (Value.int IntKind.i64) (show (i : Int) + 1 = ((i + 1 : Nat) : Int) from rfl), HL2, KB5, KW5, ⟨by have := HK.out; omega, by omega⟩⟩
            · have u5 : wr.cell? ⟨p, (s[i]'hi).toNat, none⟩ = some (.slice none 0 0) := (HT2.out.cell _).trans (rep2_n n q cq q' cq' _ hx (fun h => hc.1 (UInt8.toNat_inj.1 h)) (fun h => hc.2 (UInt8.toNat_inj.1 h)))
              have hE2 : escL ((L s).take (i + 1)) = escL ((L s).take i) ++ [(L s)[i]'hi] := by rw [HTK.out, escL_append]; rw [escL_one, escB_plain _ hc]
              have hl2 : j + 1 ≤ N := by have := HLE.out; rw [hE2, List.length_append, List.length_singleton, ← HJ.out] at this; exact this
              have HE2 := Aside0.mk hE2
              obtain ⟨vv, hvv⟩ := HBu.out.val j (by omega)
              have hfz := HBu.out.frozen j
              have hput := HBu.out.put ((L s)[i]'hi) (by rw [← HJ.out]; omega)
              rw [← HJ.out, ← hE2] at hput
              have HPU := Aside0.mk hput
              have hb1 : (0 : Int) ≤ (j : Int) := by omega
              have hb2 : (j : Int) < (N : Int) := by omega
              have HBn := Aside0.mk (HB2.out.setCell (p := ⟨Gb, j, none⟩) HPG.out (.int .u8 (((L s)[i]'hi).toNat : Int)))
              clear hc hE2 hput
              go_wp2_with fail
              go_roundg k1
              case measure => omega
              case rel => exact ⟨i + 1, j + 1, congrArg (Value.int IntKind.i64) (show (j : Int) + 1 = ((j + 1 : Nat) : Int) from rfl), congrArg (Value.int IntKind.i64) (show (i : Int) + 1 = ((i + 1 : Nat) : Int) from rfl), ⟨by rw [HE2.out, List.length_append, List.length_singleton, HJ.out]⟩, HPU, HBn, ⟨by have := HK.out; omega, by omega⟩⟩
          · have hlt : decide ((i : Int) < (s.size : Int)) = false := decide_eq_false (by omega)
            have hall : (L s).take i = L s := List.take_of_length_le (by omega)
            rw [hall] at HBu
            have kc := HBu.out.text N HN.out
            go_wp2_with fail
            go_ret
            exact ⟨rfl, HB2.out⟩
end Go.Proofs.YtdecjlkfpbgkgaaGreatDoor.X
namespace Go.Proofs.YtdecjlkfpbgkgaaGreatDoor.X
open Go.RowKit Go.Shelf Go.Proofs.YtdecjlkfpbgkgaaGreatDoorW.PrintWords Go.Proofs.YtdecjlkfpbgkgaaGreatDoorW.PrintLast Go.Proofs.YtdecjlkfpbgkgaaGreatDoorW.PrintMore Go.Proofs.YtdecjlkfpbgkgaaGreatDoor.F Go.Proofs.YtdecjlkfpbgkgaaGreatDoor.Pm
set_option linter.unusedVariables false
set_option linter.unusedSimpArgs false
theorem ne_of_type {W : World} {g b : Nat} {cs ds : Array Value} {t u : TypeId} {f f' : Nat × Nat} (h : W.heap[g]? = some (.cells cs t f)) (h' : W.heap[b]? = some (.cells ds u f')) (ht : t ≠ u) : g ≠ b := by
  rintro rfl
  have := h.symm.trans h'
  injection this with this
  injection this with _ h5 _
  exact ht h5
theorem RepB.set {W : World} {p b : Nat} {v0 v1 v2 v3 v4 : Value} (h : RepB W p) (h5 : Five W b v0 v1 v2 v3 v4) (i : Nat) (y : Value) : RepB (W.setCell ⟨b, i, none⟩ y) p := by
  obtain ⟨n, q, c, q', c', hT, hD, hQ, hQ'⟩ := h
  have e1 := ne_of_type hT h5 (by decide)
  have e2 := ne_of_type hD h5 (by decide)
  have e3 : q ≠ b := by obtain ⟨cs, z, h1, _⟩ := hQ; exact ne_of_type h1 h5 (by decide)
  have e4 : q' ≠ b := by obtain ⟨cs, z, h1, _⟩ := hQ'; exact ne_of_type h1 h5 (by decide)
  exact ⟨n, q, c, q', c', (Below.heap_setCell _ _ _ _ (by exact e1)).trans hT, (Below.heap_setCell _ _ _ _ (by exact e2)).trans hD, hQ.move (Below.heap_setCell _ _ _ _ (by exact e3)), hQ'.move (Below.heap_setCell _ _ _ _ (by exact e4))⟩
theorem RepB.drew {W : World} {p : Nat} (h : RepB W p) : RepB W.drew p := h
set_option maxRecDepth 100000 in
set_option maxHeartbeats 4000000 in
theorem once_calls (b g c base : Nat) (v0 v1 v2 v3 : Value) (w : World) (h5 : Five w b v0 v1 v2 v3 (.slice (some ⟨g, 0, none⟩) 4 c)) (hr : RowAt w g fourS) (hg : g < w.heap.size) (hb : base ≤ b) :
    Calls Tryz.prog 54 #[.pointer (some ⟨b, 0, none⟩)] w fun e w' => e = .returned (.tuple #[]) ∧ ∃ p, Five w' b v0 v1 v2 (.iface 120 (.pointer (some ⟨p, 0, none⟩))) (.slice none 0 0) ∧ RepB w' p ∧ Below base w w' := by
  have H5 := Aside0.mk h5
  have HL := Aside0.mk (And.intro hb h5.lt)
  have HC := Aside0.mk (build_calls b g c v0 v1 v2 v3 w h5 hr hg)
  clear h5 hr hg hb
  go_enter Tryz.func54, Tryz.ntmps54
  go_wp2_with fail
  refine HC.out.mono ?_
  rintro e w1 ⟨p, rfl, hb1, hp, hR⟩
  have k5 := H5.out.below hb1
  have k6 : Five (w1.setCell ⟨b, 3, none⟩ (.iface 120 (.pointer (some ⟨p, 0, none⟩)))) b v0 v1 v2 (.iface 120 (.pointer (some ⟨p, 0, none⟩))) (.slice (some ⟨g, 0, none⟩) 4 c) := cells_set k5 3 _
  have k7 : Five ((w1.setCell ⟨b, 3, none⟩ (.iface 120 (.pointer (some ⟨p, 0, none⟩)))).setCell ⟨b, 4, none⟩ (.slice none 0 0)) b v0 v1 v2 (.iface 120 (.pointer (some ⟨p, 0, none⟩))) (.slice none 0 0) := cells_set k6 4 _
  have c3 : w1.cell? ⟨b, 3, none⟩ = some v3 := (k5.cell 3).trans rfl
  have f3 := k5.frozen 3
  have c4 : (w1.setCell ⟨b, 3, none⟩ (.iface 120 (.pointer (some ⟨p, 0, none⟩)))).cell? ⟨b, 4, none⟩ = some (.slice (some ⟨g, 0, none⟩) 4 c) := (k6.cell 4).trans rfl
  have f4 := k6.frozen 4
  have R2 := (hR.set k5 3 (.iface 120 (.pointer (some ⟨p, 0, none⟩)))).set k6 4 (.slice none 0 0)
  have bb : Below base w w1 := hb1.mono (by have := HL.out.1; have := HL.out.2; omega)
  have B2 := (bb.setCell (p := ⟨b, 3, none⟩) HL.out.1 (.iface 120 (.pointer (some ⟨p, 0, none⟩)))).setCell (p := ⟨b, 4, none⟩) HL.out.1 (.slice none 0 0)
  have HF := Aside0.mk (And.intro k7 (And.intro R2 B2))
  clear k5 k6 k7 R2 B2 bb hR hb1
  go_wp2
  exact bodyPost_end (results_none rfl _ _ _) rfl ⟨rfl, p, HF.out⟩
set_option maxRecDepth 100000 in
set_option maxHeartbeats 4000000 in
theorem replace_calls (b g c base : Nat) (v3 : Value) (s : ByteArray) (w : World) (h5 : Five w b (.int .u32 0) (.int .i32 0) (.int .u32 0) v3 (.slice (some ⟨g, 0, none⟩) 4 c)) (hr : RowAt w g fourS) (hg : g < w.heap.size) (hgb : g ≠ b) (hb : base ≤ b) (hs : s.size ≤ 1000000) :
    Calls Tryz.prog 43 #[.pointer (some ⟨b, 0, none⟩), .string s] w fun e w' => e = .returned (.string (M (escL (L s)))) ∧ Below base w w' := by
  have hl := h5.lt
  have h51 : Five (w.setCell ⟨b, 1, none⟩ (.int .i32 1)) b (.int .u32 0) (.int .i32 1) (.int .u32 0) v3 (.slice (some ⟨g, 0, none⟩) 4 c) := cells_set h5 1 _
  have hr1 : RowAt (w.setCell ⟨b, 1, none⟩ (.int .i32 1)) g fourS := fun j u hu => by rw [World.cell?_setCell_other _ _ _ _ (fun h => hgb (congrArg Addr.block h).symm)]; exact hr j u hu
  have HL := Aside0.mk (And.intro hb hl)
  have HD := Aside0.mk (do_first b (.int .u32 0) v3 (.slice (some ⟨g, 0, none⟩) 4 c) w h5 _ (fun w' h => by obtain ⟨p, h1, h2⟩ := h; exact ⟨_, _, h1⟩) (once_calls b g c base _ _ _ _ _ h51 hr1 (by rw [Deep.nblk_setCell]; exact hg) hb))
  clear h5 hr hg hgb hb hl h51 hr1
  have hmf : ∀ (fn : Fn) (first cap : Array Value) (w : World), (Instr.makeFunc fn first cap).run Tryz.prog w = .ok (.func fn first cap) w := fun _ _ _ _ => rfl
  go_enter Tryz.func43, Tryz.ntmps43
  go_wp2_with fail
  refine HD.out.mono ?_
  rintro e w' ⟨rfl, w1, ⟨p, k5, kR, kB⟩, rfl⟩
  have m1 : Five (w1.drew.setCell ⟨b, 0, none⟩ (.int .u32 1)) b (.int .u32 1) (.int .i32 1) (.int .u32 0) (.iface 120 (.pointer (some ⟨p, 0, none⟩))) (.slice none 0 0) := cells_set (W := w1.drew) k5 0 _
  have m2 : Five ((w1.drew.setCell ⟨b, 0, none⟩ (.int .u32 1)).setCell ⟨b, 1, none⟩ (.int .i32 0)) b (.int .u32 1) (.int .i32 0) (.int .u32 0) (.iface 120 (.pointer (some ⟨p, 0, none⟩))) (.slice none 0 0) := cells_set m1 1 _
  have R1 := ((RepB.drew kR).set (W := w1.drew) k5 0 (.int .u32 1)).set m1 1 (.int .i32 0)
  have B0 : Below base w (w.setCell ⟨b, 1, none⟩ (.int .i32 1)) := (Below.refl base w).setCell (p := ⟨b, 1, none⟩) HL.out.1 _
  have B1 := ((B0.trans kB).drew.setCell (p := ⟨b, 0, none⟩) HL.out.1 (.int .u32 1)).setCell (p := ⟨b, 1, none⟩) HL.out.1 (.int .i32 0)
  have hsz : base ≤ ((w1.drew.setCell ⟨b, 0, none⟩ (.int .u32 1)).setCell ⟨b, 1, none⟩ (.int .i32 0)).heap.size := Nat.le_trans HL.out.1 (Nat.le_of_lt m2.lt)
  have HF := Aside0.mk (And.intro R1 (And.intro B1 hsz))
  have c3 := (m2.cell 3).trans (show _ = some (.iface 120 (.pointer (some ⟨p, 0, none⟩))) from rfl)
  clear k5 kR kB m1 m2 R1 B0 B1 hsz HD
  generalize (w1.drew.setCell ⟨b, 0, none⟩ (.int .u32 1)).setCell ⟨b, 1, none⟩ (.int .i32 0) = W2 at HF c3 ⊢
  go_wp2_with fail
  refine (bsr_calls p s W2 HF.out.1 hs).mono ?_
  rintro e w9 ⟨rfl, h9⟩
  have HE := Aside0.mk (HF.out.2.1.trans (h9.mono HF.out.2.2))
  clear h9
  go_wp2_with fail
  go_ret
  exact ⟨rfl, HE.out⟩
/-- A value as it is told. -/
def quoteL (l : Bs) : Bs := if fieldTok l = true then l else 34 :: (escL l ++ [34])
set_option maxRecDepth 100000 in
set_option maxHeartbeats 4000000 in
theorem quote_calls (v : ByteArray) (w : World) (hs : v.size ≤ 1000000) :
    Calls Tryz.prog 32 #[.string v] w fun e w' => e = .returned (.string (M (quoteL (L v)))) ∧ Below w.heap.size w w' := by
  have hb := Boxed.new w 43 (.string v)
  have hB0 : Below w.heap.size w (w.alloc (.cells #[.string v] 43)) := (Below.refl _ _).alloc (Nat.le_refl _) _
  have HB := Aside0.mk hb
  have HBE := Aside0.mk hB0
  clear hb hB0
  go_enter Tryz.func32, Tryz.ntmps32
  go_wp2_with fail
  refine (token_calls w.heap.size v _ HB.out (by omega)).mono ?_
  rintro e w2 ⟨rfl, h2⟩
  have hb2 : Boxed w2 w.heap.size 43 (.string (M ((L v).dropWhile tokB))) := by rw [h2]; exact HB.out.set _
  have hB2 : Below w.heap.size w w2 := by rw [h2]; exact HBE.out.setCell (p := ⟨w.heap.size, 0, none⟩) (Nat.le_refl _) _
  have HB2 := Aside0.mk hB2
  have hc := hb2.cell
  have hf := hb2.frozen
  obtain ⟨q1, hq1⟩ : ∃ q, ((L v).takeWhile tokB).isEmpty = q := ⟨_, rfl⟩
  obtain ⟨q2, hq2⟩ : ∃ q, ((L v).dropWhile tokB).isEmpty = q := ⟨_, rfl⟩
  have HQ := Aside0.mk (show fieldTok (L v) = (!q1 && q2) from by unfold fieldTok; rw [hq1, hq2])
  obtain ⟨m1, m2, m3⟩ := M_empty ((L v).takeWhile tokB)
  obtain ⟨n1, n2, n3⟩ := M_empty ((L v).dropWhile tokB)
  rw [hq1] at m1 m2 m3
  rw [hq2] at n1 n2 n3
  clear h2 hb2 hB2 hq1 hq2
  generalize M ((L v).takeWhile tokB) = T1 at *
  generalize M ((L v).dropWhile tokB) = T2 at *
  have hsz : (M (escL (L v))).size ≤ 3000000 := by
    show (escL (L v)).length ≤ _
    rw [escL_len]
    have h1 : (L v).count 92 ≤ v.size := List.count_le_length
    have h2 : (L v).count 34 ≤ v.size := List.count_le_length
    have h3 : (L v).length = v.size := rfl
    omega
  have HS := Aside0.mk hsz
  have HQF := Aside0.mk (show fieldTok (L v) = false → M (quoteL (L v)) = ⟨#[34]⟩ ++ M (escL (L v)) ++ ⟨#[34]⟩ from fun h => by
    unfold quoteL
    rw [if_neg (by rw [h]; decide)]
    have e1 := U.B_append [34] (escL (L v))
    have e2 := U.B_append ([34] ++ escL (L v)) [34]
    rw [← e1] at e2
    exact e2.symm)
  clear hsz
  have HAL := Aside0.mk (show RowAt (w2.alloc (.cells #[.string ⟨#[34]⟩, .string ⟨#[92, 34]⟩, .string ⟨#[92]⟩, .string ⟨#[92, 92]⟩] 9)) w2.heap.size fourS from fun j u hu => by
    have h := World.alloc_heap_new w2 (.cells #[.string ⟨#[34]⟩, .string ⟨#[92, 34]⟩, .string ⟨#[92]⟩, .string ⟨#[92, 92]⟩] 9)
    simp only [World.cell?, h]
    simpa [fourS] using hu)
  have HA2 := Aside0.mk (show Below w.heap.size w (w2.alloc (.cells #[.string ⟨#[34]⟩, .string ⟨#[92, 34]⟩, .string ⟨#[92]⟩, .string ⟨#[92, 92]⟩] 9)) ∧ w2.heap.size < (w2.alloc (.cells #[.string ⟨#[34]⟩, .string ⟨#[92, 34]⟩, .string ⟨#[92]⟩, .string ⟨#[92, 92]⟩] 9)).heap.size from ⟨HB2.out.alloc HB2.out.size _, by rw [World.size_alloc]; omega⟩)
  cases q1 <;> cases q2
  case false.true =>
    go_wp2
    go_ret
    refine ⟨?_, HB2.out⟩
    unfold quoteL
    rw [if_pos (show fieldTok (L v) = true from HQ.out)]
    rfl
  all_goals
    have HQN := Aside0.mk (HQF.out HQ.out)
    clear HQ HQF
    go_wp2_with fail
    generalize w2.alloc (.cells #[.string ⟨#[34]⟩, .string ⟨#[92, 34]⟩, .string ⟨#[92]⟩, .string ⟨#[92, 92]⟩] 9) = w3 at HAL HA2 ⊢
    refine (newrep_calls w2.heap.size w3 HAL.out HA2.out.2).mono ?_
    rintro e w4 ⟨b, g2, c, rfl, hB3, hbb, hgg, hg2, hne, h5, hrow2⟩
    have HR := Aside0.mk (replace_calls b g2 c w.heap.size .nilIface v w4 h5 hrow2 hg2 hne (Nat.le_trans HA2.out.1.size hbb) hs)
    have HB4 := Aside0.mk (HA2.out.1.trans (hB3.mono HA2.out.1.size))
    clear hB3 hbb hgg hg2 hne h5 hrow2
    go_wp2_with fail
    refine HR.out.mono ?_
    rintro e w5 ⟨rfl, h5⟩
    have HB5 := Aside0.mk (HB4.out.trans h5)
    clear h5 HR
    have hsz := HS.out
    generalize M (escL (L v)) = R at hsz HQN ⊢
    have z1 : (9223372036854775807 < 1 + R.size) = False := eq_false (by omega)
    have z2 : (9223372036854775807 < 1 + R.size + 1) = False := eq_false (by omega)
    go_wp2_with fail
    go_ret
    rw [HQN.out]
    exact ⟨rfl, HB5.out⟩
end Go.Proofs.YtdecjlkfpbgkgaaGreatDoor.X
namespace Go.Proofs.YtdecjlkfpbgkgaaGreatDoor.X
open Go.RowKit Go.Shelf Go.Proofs.YtdecjlkfpbgkgaaGreatDoorW.PrintWords Go.Proofs.YtdecjlkfpbgkgaaGreatDoorW.PrintLast Go.Proofs.YtdecjlkfpbgkgaaGreatDoorW.PrintMore Go.Proofs.YtdecjlkfpbgkgaaGreatDoor.F Go.Proofs.YtdecjlkfpbgkgaaGreatDoor.Pm
set_option linter.unusedVariables false
set_option linter.unusedSimpArgs false
theorem count_two : ∀ l : Bs, l.count 92 + l.count 34 ≤ l.length
  | [] => by simp
  | c :: t => by
    have ih := count_two t
    simp only [List.count_cons, List.length_cons]
    by_cases h1 : c = 92
    · subst h1; simp; omega
    · simp [h1]; split <;> omega
theorem quoteL_len (l : Bs) : (quoteL l).length ≤ 2 * l.length + 2 := by
  unfold quoteL
  split
  · omega
  · rw [List.length_cons, List.length_append, List.length_singleton, escL_len]
    have h := count_two l
    omega
def partG (x : S38) : Bs := [59, 32] ++ L x.f0 ++ [61] ++ quoteL (L x.f1)
def partsG (l : List S38) : Bs := l.flatMap partG
theorem partsG_len : ∀ l : List S38, (partsG l).length ≤ 2 * tot l
  | [] => Nat.le_refl _
  | x :: r => by
    show (partG x ++ partsG r).length ≤ _
    have h1 := partsG_len r
    have h2 := quoteL_len (L x.f1)
    have h3 : (L x.f0).length = x.f0.size := rfl
    have h4 : (L x.f1).length = x.f1.size := rfl
    rw [List.length_append]
    unfold partG
    simp only [List.length_append, List.length_cons, List.length_nil, tot]
    omega
set_option maxHeartbeats 8000000 in
set_option maxRecDepth 100000 in
theorem gprint_calls (t u : ByteArray) (A : Option Addr) (c : Nat) (l : List S38) (w : World) (hC : Kd.C k38 w A l.length l) (hc : l.length ≤ c) (ht : tot l + t.size + u.size ≤ 1000000) (hl : l.length ≤ 1000000) :
    Calls Tryz.prog 18 #[.agg #[.string t, .string u, .slice A l.length c]] w fun e w' => e = .returned (.string (M (headT t u ++ partsG l))) ∧ Below w.heap.size w w' := by
  have HC := Aside0.mk hC
  have HT := Aside0.mk ht
  have hu25 := Tryz.underlying25
  have hu38 := Tryz.underlying38
  have hu56 := Tryz.underlying56
  have hk0 := Tri.new w 25 (.string t) (.string u) (.slice A l.length c)
  have hB0 : Below w.heap.size w (w.alloc (.cells #[.string t, .string u, .slice A l.length c] 25)) := (Below.refl _ _).alloc (Nat.le_refl _) _
  have hs0 : (w.alloc (.cells #[.string t, .string u, .slice A l.length c] 25)).heap.size = w.heap.size + 1 := World.size_alloc _ _
  obtain ⟨W0, hW0⟩ : ∃ x, w.alloc (.cells #[.string t, .string u, .slice A l.length c] 25) = x := ⟨_, rfl⟩
  rw [hW0] at hk0 hB0 hs0
  have hbl := Bl.new W0
  have hk1 := hk0.below ((Below.refl W0.heap.size W0).alloc (Nat.le_refl _) (.cells #[.pointer none, .slice none 0 0] 56))
  have hB1 : Below w.heap.size w (W0.alloc (.cells #[.pointer none, .slice none 0 0] 56)) := hB0.alloc hB0.size _
  have hs1 : (W0.alloc (.cells #[.pointer none, .slice none 0 0] 56)).heap.size = w.heap.size + 2 := by rw [World.size_alloc, hs0]
  obtain ⟨W1, hW1⟩ : ∃ x, W0.alloc (.cells #[.pointer none, .slice none 0 0] 56) = x := ⟨_, rfl⟩
  rw [hW1] at hk1 hB1 hs1 hbl
  rw [hs0] at hbl
  clear hC ht hk0 hB0
  have d0 := hk1.c0
  have d1 := hk1.c1
  have d2 := hk1.c2
  go_enter Tryz.func18, Tryz.ntmps18
  have z1 : (9223372036854775807 < t.size + 1) = False := eq_false (by have := HT.out; omega)
  have z2 : (9223372036854775807 < t.size + 1 + u.size) = False := eq_false (by have := HT.out; omega)
  go_wp2_with fail
  have hlen : ([] : List UInt8).length + (t ++ ⟨#[47]⟩ ++ u).size ≤ 140737488355328 := by
    rw [ByteArray.size_append, ByteArray.size_append, show (⟨#[47]⟩ : ByteArray).size = 1 from rfl]
    have := HT.out
    simp only [List.length_nil]
    omega
  have hBw : w.heap.size + 1 ≤ W1.heap.size := by omega
  with_reducible refine (write_calls (w.heap.size + 1) (w.heap.size + 1) [] (t ++ ⟨#[47]⟩ ++ u) W1 hbl hlen hBw).mono ?_
  rintro e W2 ⟨rfl, h1, h2⟩
  have e0 : [] ++ L (t ++ ⟨#[47]⟩ ++ u) = headT t u := by unfold headT; rw [List.nil_append]; show (t ++ ⟨#[47]⟩ ++ u).data.toList = _; rw [ByteArray.data_append, ByteArray.data_append, Array.toList_append, Array.toList_append]
  rw [e0] at h1
  have HBL := Aside0.mk h1
  have HK := Aside0.mk (show Tri W2 w.heap.size 25 (.string t) (.string u) (.slice A l.length c) from (h2.block w.heap.size (by omega)).trans hk1)
  have HBW := Aside0.mk (show Below w.heap.size w W2 from hB1.trans (h2.mono (by omega)))
  have HS := Aside0.mk (show w.heap.size + 2 ≤ W2.heap.size from by have := h2.size; omega)
  clear hlen hBw hW1 hW0 hs0 hs1 h1 h2 e0 hbl hk1 hB1 d0 d1 d2 z1 z2
  have d2 := HK.out.c2
  go_wp2_with fail
  go_loopg [16] (l.length + 1) (fun kq v16 wr => ∃ (i : Nat), v16 = .int .i64 i ∧ Aside0 (Bl (w.heap.size + 1) (w.heap.size + 1) (headT t u ++ partsG (l.take i)) wr) ∧ Aside0 (Below w.heap.size w wr) ∧ Aside0 (w.heap.size + 2 ≤ wr.heap.size) ∧ Aside0 (i + kq = l.length + 1 ∧ i ≤ l.length))
  case atStart => exact ⟨0, rfl, ⟨by rw [List.take_zero]; show Bl _ _ (headT t u ++ []) _; rw [List.append_nil]; exact HBL.out⟩, HBW, HS, ⟨by omega, by omega⟩⟩
  case round =>
    obtain ⟨i, rfl, HBl, HB, HS2, HK2⟩ := hrel
    cases gk with
    | zero => exact absurd HK2.out (by omega)
    | succ k1 =>
      by_cases hi : i < l.length
      · obtain ⟨ad, rfl, x0, x1⟩ := at_T38 (Kd.C_below HC.out HB.out) (i : Int) (by omega) (by omega)
        have hrd : rd_T38 l (i : Int) = l[i]'hi := by
          unfold rd_T38
          rw [Int.toNat_natCast, List.getD_eq_getElem?_getD, List.getElem?_eq_getElem hi, Option.getD_some]
        have HT2 := Aside0.mk (tot_take l i hi)
        have HSs := Aside0.mk (List.take_succ_eq_append_getElem (l := l) (i := i) hi)
        rw [hrd] at x0 x1
        clear hrd
        generalize l[i]'hi = x at x0 x1 HT2 HSs
        rw [Int.toNat_natCast] at x0 x1
        have hlt : decide ((i : Int) < (l.length : Int)) = true := decide_eq_true (by omega)
        have p1 := eq_true (show 0 ≤ (i : Int) by omega)
        have p2 := eq_true (show (i : Int) < (l.length : Int) by omega)
        have hz0 : x.f0.size + x.f1.size + 3 ≤ 1000000 := by have := HT2.out; have := HT.out; omega
        have z3 : (9223372036854775807 < 2 + x.f0.size) = False := eq_false (by omega)
        have z4 : (9223372036854775807 < 2 + x.f0.size + 1) = False := eq_false (by omega)
        obtain ⟨Q, hQ⟩ : ∃ Q, M (quoteL (L x.f1)) = Q := ⟨_, rfl⟩
        have hQs : Q.size ≤ 2 * x.f1.size + 2 := by rw [← hQ]; exact quoteL_len (L x.f1)
        have HQ := Aside0.mk hQ
        have HQC := Aside0.mk (show ∀ W : World, Calls Tryz.prog 32 #[.string x.f1] W fun e w' => e = .returned (.string Q) ∧ Below W.heap.size W w' from fun W => by rw [← hQ]; exact quote_calls x.f1 W (by omega))
        clear hQ
        have z5 : (9223372036854775807 < 2 + x.f0.size + 1 + Q.size) = False := eq_false (by omega)
        go_wp2_with fail
        have KX := Aside0.mk (Two.new wr 38 (.string x.f0) (.string x.f1))
        have KB := Aside0.mk (HBl.out.below ((Below.refl _ wr).alloc (Nat.le_refl _) (.cells #[.string x.f0, .string x.f1] 38)))
        have KW := Aside0.mk (HB.out.alloc HB.out.size (.cells #[.string x.f0, .string x.f1] 38))
        have KS := Aside0.mk (show w.heap.size + 2 ≤ (wr.alloc (.cells #[.string x.f0, .string x.f1] 38)).heap.size from by rw [World.size_alloc]; have := HS2.out; omega)
        have hlen : (headT t u ++ partsG (l.take i)).length + (⟨#[59, 32]⟩ ++ x.f0 ++ ⟨#[61]⟩ ++ Q : ByteArray).size ≤ 140737488355328 := by
          rw [List.length_append, ByteArray.size_append, ByteArray.size_append, ByteArray.size_append, show (⟨#[59, 32]⟩ : ByteArray).size = 2 from rfl, show (⟨#[61]⟩ : ByteArray).size = 1 from rfl]
          have h1 := HT2.out
          have h2 := HT.out
          have h4 := partsG_len (l.take i)
          have h3 : (headT t u).length = t.size + 1 + u.size := by unfold headT; simp only [List.length_append, List.length_cons, List.length_nil]; rfl
          omega
        generalize wr.alloc (.cells #[.string x.f0, .string x.f1] 38) = W3 at KX KB KW KS ⊢
        have KN := Aside0.mk HS2.out
        generalize wr.heap.size = n at KX KN ⊢
        refine start_ (n := 9) (S := fun w' => w'.cell? ⟨n, 0, none⟩ = some (.string x.f0) ∧ w'.cell? ⟨n, 1, none⟩ = some (.string x.f1)) (ds := []) #[false, false, false, false, false, false, false, false, false] (by kernel_rfl) rfl rfl ⟨KX.out.c0, KX.out.c1⟩ (fun hHeld => ?_)
        refine with_tabW print_tab6 print_bits6 (fun HT_ HW_ => ?_)
        have hd : Below W3.heap.size W3 W3.drew := (Below.refl _ _).drew
        replace KX := Aside0.mk (KX.out.below hd)
        replace KB := Aside0.mk (KB.out.below hd)
        replace KW := Aside0.mk (KW.out.trans (hd.mono KW.out.size))
        replace KS := Aside0.mk (Nat.le_trans KS.out hd.size)
        clear hd
        generalize World.drew _ = v0 at KX KB KW KS hHeld ⊢
        refine pure_ (i := 0) (N := some 20) (v := .pointer (some ⟨n, 0, none⟩)) #[true, false, false, false, false, false, false, false, false] rfl rfl (any_of HT_.out (by kernel_rfl)) (fun _ _ _ h => h) (Or.inl ⟨by rfl, fun w' => by go_simp⟩) rfl ?_
        simp only [Act.put, List.setIfInBounds_toArray, List.set_cons_zero, List.set_cons_succ]
        refine take_ (i := 1) (N := some 21) (v := .string x.f0) #[true, true, false, false, false, false, false, false, false] rfl rfl (take_ofW HT_.out HW_.out (by kernel_rfl)) (fun _ _ _ h => h) (Or.inl ⟨by rfl, fun w' hS => by obtain ⟨s0, s1⟩ := hS; go_simp⟩) hHeld rfl ?_
        simp only [Act.put, List.setIfInBounds_toArray, List.set_cons_zero, List.set_cons_succ]
        refine pure_ (i := 2) (N := some 22) (v := .string (⟨#[59, 32]⟩ ++ x.f0)) #[true, true, true, false, false, false, false, false, false] rfl rfl (any_of HT_.out (by kernel_rfl)) (fun _ _ _ h => h) (Or.inl ⟨by rfl, fun w' => by go_simp⟩) rfl ?_
        simp only [Act.put, List.setIfInBounds_toArray, List.set_cons_zero, List.set_cons_succ]
        refine pure_ (i := 3) (N := some 23) (v := .string (⟨#[59, 32]⟩ ++ x.f0 ++ ⟨#[61]⟩)) #[true, true, true, true, false, false, false, false, false] rfl rfl (any_of HT_.out (by kernel_rfl)) (fun _ _ _ h => h) (Or.inl ⟨by rfl, fun w' => by go_simp⟩) rfl ?_
        simp only [Act.put, List.setIfInBounds_toArray, List.set_cons_zero, List.set_cons_succ]
        refine pure_ (i := 4) (N := some 24) (v := .pointer (some ⟨n, 1, none⟩)) #[true, true, true, true, true, false, false, false, false] rfl rfl (any_of HT_.out (by kernel_rfl)) (fun _ _ _ h => h) (Or.inl ⟨by rfl, fun w' => by go_simp⟩) rfl ?_
        simp only [Act.put, List.setIfInBounds_toArray, List.set_cons_zero, List.set_cons_succ]
        refine take_ (i := 5) (N := some 25) (v := .string x.f1) #[true, true, true, true, true, true, false, false, false] rfl rfl (take_ofW HT_.out HW_.out (by kernel_rfl)) (fun _ _ _ h => h) (Or.inl ⟨by rfl, fun w' hS => by obtain ⟨s0, s1⟩ := hS; go_simp⟩) hHeld rfl ?_
        simp only [Act.put, List.setIfInBounds_toArray, List.set_cons_zero, List.set_cons_succ]
        refine one_ (i := 6) (N := some 26) #[true, true, true, true, true, true, true, false, false] rfl rfl (one_of HT_.out (by kernel_rfl)) (by decide) (fun K hK => ?_)
        refine goes_ Tryz.func32 (by kernel_rfl) rfl #[.string x.f1] (by rfl) rfl rfl (by (try simp only [List.map_toArray, List.map_cons, List.map_nil]); first | done | rfl) ?_
        with_reducible refine (HQC.out _).mono ?_
        rintro e_ v1 ⟨rfl, h⟩
        replace KX := Aside0.mk (KX.out.below h)
        replace KB := Aside0.mk (KB.out.below h)
        replace KW := Aside0.mk (KW.out.trans (h.mono KW.out.size))
        replace KS := Aside0.mk (Nat.le_trans KS.out h.size)
        clear h
        refine ⟨_, rfl, ?_⟩
        refine hK.out _ _ ⟨KX.out.c0, KX.out.c1⟩ (fun hHeld => ?_)
        clear hK K
        simp only [Act.put, List.setIfInBounds_toArray, List.set_cons_zero, List.set_cons_succ]
        refine pure_ (i := 7) (N := some 27) (v := .string (⟨#[59, 32]⟩ ++ x.f0 ++ ⟨#[61]⟩ ++ Q)) #[true, true, true, true, true, true, true, true, false] rfl rfl (any_of HT_.out (by kernel_rfl)) (fun _ _ _ h => h) (Or.inl ⟨by rfl, fun w' => by go_simp⟩) rfl ?_
        simp only [Act.put, List.setIfInBounds_toArray, List.set_cons_zero, List.set_cons_succ]
        refine one_ (i := 8) (N := some 28) #[true, true, true, true, true, true, true, true, true] rfl rfl (one_of HT_.out (by kernel_rfl)) (by decide) (fun K hK => ?_)
        refine goes_ Tryz.func31 (by kernel_rfl) rfl #[.pointer (some ⟨w.heap.size + 1, 0, none⟩), .string (⟨#[59, 32]⟩ ++ x.f0 ++ ⟨#[61]⟩ ++ Q)] (by rfl) rfl rfl (by (try simp only [List.map_toArray, List.map_cons, List.map_nil]); first | done | rfl) ?_
        with_reducible refine (write_kept (w.heap.size + 1) (w.heap.size + 1) _ (⟨#[59, 32]⟩ ++ x.f0 ++ ⟨#[61]⟩ ++ Q) _ KB.out hlen (by have := KS.out; omega)).mono ?_
        rintro e_ v2 ⟨rfl, h1, h2, h3⟩
        replace KX := Aside0.mk (KX.out.kept h3 (by have := KN.out; omega))
        have KB9 := Aside0.mk h1
        replace KW := Aside0.mk (KW.out.trans (h2.mono (by omega)))
        replace KS := Aside0.mk (Nat.le_trans KS.out h2.size)
        clear h1 h2 KB
        refine ⟨_, rfl, ?_⟩
        refine hK.out _ _ ⟨KX.out.c0, KX.out.c1⟩ (fun hHeld => ?_)
        clear hK K
        simp only [Act.put, List.setIfInBounds_toArray, List.set_cons_zero, List.set_cons_succ]
        refine done_ (done_of HT_.out (by kernel_rfl)) ?_
        clear hHeld
        have hfin : headT t u ++ partsG (l.take i) ++ L (⟨#[59, 32]⟩ ++ x.f0 ++ ⟨#[61]⟩ ++ Q) = headT t u ++ partsG (l.take (i + 1)) := by
          rw [HSs.out]
          unfold partsG
          rw [List.flatMap_append, List.append_assoc]
          congr 1
          simp only [List.flatMap_cons, List.flatMap_nil, List.append_nil]
          unfold partG
          rw [show quoteL (L x.f1) = L Q from by rw [← HQ.out]]
          show _ ++ (⟨#[59, 32]⟩ ++ x.f0 ++ ⟨#[61]⟩ ++ Q : ByteArray).data.toList = _
          rw [ByteArray.data_append, ByteArray.data_append, ByteArray.data_append, Array.toList_append, Array.toList_append, Array.toList_append]
        have hK9 := KB9.out
        rw [hfin] at hK9
        have HK9 := Aside0.mk hK9
        clear hK9 hfin KB9
        go_wp2
        go_roundg k1
        case measure => omega
        case rel => exact ⟨i + 1, congrArg (Value.int IntKind.i64) (show (i : Int) + 1 = ((i + 1 : Nat) : Int) from rfl), HK9, KW, KS, ⟨by have := HK2.out; omega, by omega⟩⟩
      · have hlt : decide ((i : Int) < (l.length : Int)) = false := decide_eq_false (by omega)
        have hall : l.take i = l := List.take_of_length_le (by omega)
        rw [hall] at HBl
        have HW := Aside0.mk (show w.heap.size + 1 ≤ W2.heap.size from by have := HS.out; omega)
        go_wp2_with fail
        refine (string_calls _ _ _ _ HBl.out (by have := HS2.out; omega)).mono ?_
        rintro e w9 ⟨rfl, h9⟩
        have HF := Aside0.mk (HB.out.trans (h9.mono (by omega)))
        clear h9
        go_wp2
        go_ret
        exact ⟨rfl, HF.out⟩
end Go.Proofs.YtdecjlkfpbgkgaaGreatDoor.X
