/- Part of the proof of topTrees_card, merged out of smaller texts. Conditions: the listed variables of the library hold what the program's text lays. -/
import Derived.Test.YtadgeghipimfiaaGreatDoorK0
section
namespace Go.Proofs.YtadgeghipimfiaaGreatDoor.X
open Go.RowKit Go.Shelf Go.Proofs.YtadgeghipimfiaaGreatDoorW.PrintWords Go.Proofs.YtadgeghipimfiaaGreatDoor.Pg
attribute [local go_sem] Oper.semAt_some
set_option maxHeartbeats 1000000 in
theorem back_in (F : Fence) (n : Nat) (h50 : F.fn 168) (hro : F.round = none) (a : Option Addr) (len cap : Nat) (w : World) :
  CallsIn F n Tryz.prog 168 #[.slice a len cap] w fun e w' => e = .returned (.func (.func 185) #[] #[.pointer (some ⟨w.heap.size, 0, none⟩)]) ∧ w' = w.alloc (.cells #[.slice a len cap] 58) := by
 refine callsIn_of_wp Tryz.func168 rfl h50 ?_ hro
 simp only [Tryz.ntmps168, List.size_toArray, List.length_cons, List.length_nil, Nat.reduceAdd, Nat.reduceSub, Array.replicate_succ, Array.replicate_zero, List.push_toArray, List.append_toArray, List.nil_append, List.cons_append]
 gi_wp2
 go_ret
 exact ⟨rfl, rfl⟩
theorem back_stops (F : Fence) (n : Nat) (h56 : F.fn 185) (hro : F.round = none) (hn : 1 ≤ n) (Bs n₀ : Nat) (A : Option Addr) (cap : Nat) (l : List S144) (hlen : l.length ≤ 4611686018427387904) (w : World) (hBs : Bs < n₀) (hn₀ : n₀ ≤ w.heap.size)
  (hc : w.cell? ⟨Bs, 0, none⟩ = some (.slice A l.length cap)) (hC : ∀ W', Below n₀ w W' → Kd.C k144 W' A l.length l) :
  SeqStopsK F n Tryz.prog 185 #[.pointer (some ⟨Bs, 0, none⟩)] pairEnc (Below n₀) (fun ys => ys = upto (backAt l) l.length)
   (fun pre => ∃ k, k ≤ l.length ∧ pre = upto (backAt l) k) l.length w := fun l₀ J Jx W hW _ _ hY h0 =>
 back1_in F n h56 hro hn l₀ Bs n₀ A cap l hlen J Jx hY W hBs ((hW.cell (p := ⟨Bs, 0, none⟩) (Nat.lt_of_lt_of_le hBs hn₀)).trans hc) (fun W' hb => hC W' ((hW.mono hn₀).trans hb)) h0
def hitB (a : ByteArray) (p : Int × S144) : Bool := p.2.f0.toList == a.toList
def spaceR (l : List (Int × S144)) (a : ByteArray) : ByteArray × Bool :=
 match l.find? (hitB a) with
 | some p => (p.2.f1, a.toList.isEmpty || !p.2.f1.toList.isEmpty)
 | none => (⟨#[]⟩, a.toList.isEmpty)
theorem find_none_snoc {a : ByteArray} {pre : List (Int × S144)} {x : Int × S144} (h : pre.find? (hitB a) = none) (hx : hitB a x = false) : (pre ++ [x]).find? (hitB a) = none := by
 rw [List.find?_append, h]; simp [hx]
theorem find_hit_snoc {a : ByteArray} {pre : List (Int × S144)} {x : Int × S144} (h : pre.find? (hitB a) = none) (hx : hitB a x = true) : (pre ++ [x]).find? (hitB a) = some x := by
 rw [List.find?_append, h]; simp [hx]
theorem find_upto (a : ByteArray) (f : Nat → Int × S144) (k m : Nat) (hk : k ≤ m) (x : Int × S144) (h : (upto f k).find? (hitB a) = some x) : (upto f m).find? (hitB a) = some x := by
 obtain ⟨d, rfl⟩ : ∃ d, m = k + d := ⟨m - k, by omega⟩
 clear hk
 induction d with
 | zero => exact h
 | succ d ih => rw [show k + (d + 1) = (k + d) + 1 from rfl, upto_succ, List.find?_append, ih]; rfl
theorem spaceR_some {l : List (Int × S144)} {a : ByteArray} {p : Int × S144} (h : l.find? (hitB a) = some p) : spaceR l a = (p.2.f1, a.toList.isEmpty || !p.2.f1.toList.isEmpty) := by simp [spaceR, h]
theorem spaceR_none {l : List (Int × S144)} {a : ByteArray} (h : l.find? (hitB a) = none) : spaceR l a = (⟨#[]⟩, a.toList.isEmpty) := by simp [spaceR, h]
theorem space_end {w W : World} {a : ByteArray} {x : Int × S144} {pre : List (Int × S144)} {B : Nat} {b : Bool} (hb : b = (a.toList.isEmpty || !x.2.f1.toList.isEmpty)) (hh : (pre ++ [x]).find? (hitB a) = some x)
  (e2 : Boxed W (w.heap.size + 1) 9 (.string ⟨#[]⟩)) (e3 : Boxed W (w.heap.size + 1 + 1) 4 (.bool false)) (hB : Below w.heap.size w W) :
  KeepsFrom B W ((W.setCell ⟨w.heap.size + 1, 0, none⟩ (.string x.2.f1)).setCell ⟨w.heap.size + 1 + 1, 0, none⟩ (.bool b)).drew ∧
   ((Code.ret = .ret ∧ ∃ p : Int × S144, (pre ++ [x]).find? (hitB a) = some p ∧ Boxed ((W.setCell ⟨w.heap.size + 1, 0, none⟩ (.string x.2.f1)).setCell ⟨w.heap.size + 1 + 1, 0, none⟩ (.bool b)).drew (w.heap.size + 1) 9 (.string p.2.f1) ∧
     Boxed ((W.setCell ⟨w.heap.size + 1, 0, none⟩ (.string x.2.f1)).setCell ⟨w.heap.size + 1 + 1, 0, none⟩ (.bool b)).drew (w.heap.size + 1 + 1) 4 (.bool (a.toList.isEmpty || !p.2.f1.toList.isEmpty))) ∧
   Below w.heap.size w ((W.setCell ⟨w.heap.size + 1, 0, none⟩ (.string x.2.f1)).setCell ⟨w.heap.size + 1 + 1, 0, none⟩ (.bool b)).drew) := by
 subst hb
 have b1 := (e2.set (.string x.2.f1)).other (B' := w.heap.size + 1 + 1) (by omega) (.bool (a.toList.isEmpty || !x.2.f1.toList.isEmpty))
 have b2 := (e3.other (B' := w.heap.size + 1) (by omega) (.string x.2.f1)).set (.bool (a.toList.isEmpty || !x.2.f1.toList.isEmpty))
 exact ⟨(((KeepsOthers.setCell _ _ _).trans (KeepsOthers.setCell _ _ _)).trans (KeepsOthers.drew _)).from _, ⟨rfl, x, hh, b1, b2⟩,
  ((hB.setCell (p := ⟨w.heap.size + 1, 0, none⟩) (by show w.heap.size ≤ w.heap.size + 1; omega) _).setCell (p := ⟨w.heap.size + 1 + 1, 0, none⟩) (by show w.heap.size ≤ w.heap.size + 1 + 1; omega) _).drew⟩
theorem done_facts {w W : World} {b : Bool} {D : Nat} (hK : W.heap[D]? = some (.deferred (some [])))
  (e2 : Boxed W (w.heap.size + 1) 9 (.string ⟨#[]⟩)) (e3 : Boxed W (w.heap.size + 1 + 1) 4 (.bool false)) (hB : Below w.heap.size w W) :
  ((W.setCell ⟨w.heap.size + 1, 0, none⟩ (.string ⟨#[]⟩)).setCell ⟨w.heap.size + 1 + 1, 0, none⟩ (.bool b)).drew.heap[D]? = some (.deferred (some [])) ∧
    Boxed ((W.setCell ⟨w.heap.size + 1, 0, none⟩ (.string ⟨#[]⟩)).setCell ⟨w.heap.size + 1 + 1, 0, none⟩ (.bool b)).drew (w.heap.size + 1) 9 (.string ⟨#[]⟩) ∧
    Boxed ((W.setCell ⟨w.heap.size + 1, 0, none⟩ (.string ⟨#[]⟩)).setCell ⟨w.heap.size + 1 + 1, 0, none⟩ (.bool b)).drew (w.heap.size + 1 + 1) 4 (.bool b) ∧
    Below w.heap.size w ((W.setCell ⟨w.heap.size + 1, 0, none⟩ (.string ⟨#[]⟩)).setCell ⟨w.heap.size + 1 + 1, 0, none⟩ (.bool b)).drew := by
 have b1 := (e2.set (.string ⟨#[]⟩)).other (B' := w.heap.size + 1 + 1) (by omega) (.bool b)
 have b2 := (e3.other (B' := w.heap.size + 1) (by omega) (.string ⟨#[]⟩)).set (.bool b)
 exact ⟨(((KeepsOthers.setCell _ _ _).trans (KeepsOthers.setCell _ _ _)).trans (KeepsOthers.drew _)).same D _ hK rfl, b1, b2,
  ((hB.setCell (p := ⟨w.heap.size + 1, 0, none⟩) (by show w.heap.size ≤ w.heap.size + 1; omega) _).setCell (p := ⟨w.heap.size + 1 + 1, 0, none⟩) (by show w.heap.size ≤ w.heap.size + 1 + 1; omega) _).drew⟩
set_option maxRecDepth 100000 in
set_option maxHeartbeats 0 in
theorem space_in (F : Fence) (n : Nat) (h40 : F.fn 140) (h50 : F.fn 168) (h56 : F.fn 185) (hro : F.round = none) (hn : 3 ≤ n) (A : Option Addr) (cap : Nat) (l : List S144) (hlen : l.length ≤ 4611686018427387904) (a : ByteArray) (w : World) (hC : Kd.C k144 w A l.length l) :
  CallsIn F n Tryz.prog 140 #[.slice A l.length cap, .string a] w fun e W' => e = .returned (.tuple #[.string (spaceR (upto (backAt l) l.length) a).1, .bool (spaceR (upto (backAt l) l.length) a).2]) ∧ Below w.heap.size w W' := by
 have h1 : 1 ≤ n := by omega
 have HC := Aside0.mk hC
 clear hC
 refine callsIn_of_wp_marks Tryz.func140 rfl h40 ?_ hro
 simp only [Tryz.ntmps140, List.size_toArray, List.length_cons, List.length_nil, Nat.reduceAdd, Nat.reduceSub, Array.replicate_succ, Array.replicate_zero, List.push_toArray, List.append_toArray, List.nil_append, List.cons_append]
 gi_wp2_with (gi_at_call 168; refine (back_in F (n - 1) h50 hro _ _ _ _).mono ?_; rintro e w' ⟨rfl, rfl⟩)
 have bA := ((((Boxed.new w 9 (.string a)).alloc (.cells #[.string ⟨#[]⟩] 9)).alloc (.cells #[.bool false] 4)).alloc (.cells #[.slice A l.length cap] 58))
 have bR := (((Boxed.new (w.alloc (.cells #[.string a] 9)) 9 (.string ⟨#[]⟩)).alloc (.cells #[.bool false] 4)).alloc (.cells #[.slice A l.length cap] 58))
 have bO := ((Boxed.new ((w.alloc (.cells #[.string a] 9)).alloc (.cells #[.string ⟨#[]⟩] 9)) 4 (.bool false)).alloc (.cells #[.slice A l.length cap] 58))
 have bS := (Boxed.new (((w.alloc (.cells #[.string a] 9)).alloc (.cells #[.string ⟨#[]⟩] 9)).alloc (.cells #[.bool false] 4)) 58 (.slice A l.length cap))
 simp only [World.size_alloc] at bR bO bS
 have hB0 : Below w.heap.size w ((((w.alloc (.cells #[.string a] 9)).alloc (.cells #[.string ⟨#[]⟩] 9)).alloc (.cells #[.bool false] 4)).alloc (.cells #[.slice A l.length cap] 58)) :=
  ((((Below.refl _ w).alloc (Nat.le_refl _) _).alloc (by simp) _).alloc (by simp; omega) _).alloc (by simp; omega) _
 have hsz : ((((w.alloc (.cells #[.string a] 9)).alloc (.cells #[.string ⟨#[]⟩] 9)).alloc (.cells #[.bool false] 4)).alloc (.cells #[.slice A l.length cap] 58)).heap.size = w.heap.size + 4 := by simp
 generalize hW0 : ((((w.alloc (.cells #[.string a] 9)).alloc (.cells #[.string ⟨#[]⟩] 9)).alloc (.cells #[.bool false] 4)).alloc (.cells #[.slice A l.length cap] 58)) = W0 at *
 clear hW0
 have hC0 : ∀ W', Below (w.heap.size + 4) W0 W' → Kd.C k144 W' A l.length l := fun W' hb => Kd.C_below HC.out (hB0.trans (hb.mono (by omega)))
 refine wpIn_rangeFunc_ownH hro h1 (gf := 185) (lb := #[.pointer (some ⟨w.heap.size + 1 + 1 + 1, 0, none⟩)]) rfl h56 (enters_of Tryz.func185 (by kernel_rfl) rfl)
  (back_stops F (n - 1) h56 hro (by omega) (w.heap.size + 1 + 1 + 1) (w.heap.size + 4) A cap l hlen W0 (by omega) (by omega) bS.cell hC0) belowK_t (belowK_b (by omega)) (Below.refl _ _) (fun _ => rfl)
  (fun pre W => (pre.find? (hitB a) = none ∧ Boxed W w.heap.size 9 (.string a) ∧ Boxed W (w.heap.size + 1) 9 (.string ⟨#[]⟩) ∧ Boxed W (w.heap.size + 1 + 1) 4 (.bool false) ∧ Boxed W (w.heap.size + 1 + 1 + 1) 58 (.slice A l.length cap)) ∧ Below w.heap.size w W)
  (fun c pre W => (c = .ret ∧ ∃ p : Int × S144, pre.find? (hitB a) = some p ∧ Boxed W (w.heap.size + 1) 9 (.string p.2.f1) ∧ Boxed W (w.heap.size + 1 + 1) 4 (.bool (a.toList.isEmpty || !p.2.f1.toList.isEmpty))) ∧ Below w.heap.size w W)
  (OwnFrom.and (Own.from (fun s X Y row hs hg hr => ⟨hs.1, boxed_own _ _ (fun _ : Unit => .string a) () X Y row hs.2.1 hg hr, boxed_own _ _ (fun _ : Unit => .string ⟨#[]⟩) () X Y row hs.2.2.1 hg hr, boxed_own _ _ (fun _ : Unit => .bool false) () X Y row hs.2.2.2.1 hg hr, boxed_own _ _ (fun _ : Unit => .slice A l.length cap) () X Y row hs.2.2.2.2 hg hr⟩) _) (ownFrom_below (Nat.le_refl _) (by omega)))
  (fun c => OwnFrom.and (Own.from (fun s X Y row hs hg hr => by obtain ⟨hc, p, e1, e2, e3⟩ := hs; exact ⟨hc, p, e1, boxed_own _ _ (fun _ : Unit => .string p.2.f1) () X Y row e2 hg hr, boxed_own _ _ (fun _ : Unit => .bool (a.toList.isEmpty || !p.2.f1.toList.isEmpty)) () X Y row e3 hg hr⟩) _) (ownFrom_below (Nat.le_refl _) (by omega)))
  ⟨⟨rfl, bA, bR, bO, bS⟩, hB0⟩
  (fun x a' W => ∃ Bx, w.heap.size + 4 ≤ Bx ∧ W.heap[Bx]? = some (.cells #[.string x.2.f0, .string x.2.f1] 144 (0, 0)) ∧ a' = { tmps := #[.slice A l.length cap, .string a, undef, .pointer (some ⟨w.heap.size, 0, none⟩), .pointer (some ⟨w.heap.size + 1, 0, none⟩), .pointer (some ⟨w.heap.size + 1 + 1, 0, none⟩), undef, .pointer (some ⟨Bx, 0, none⟩), .slice A l.length cap, .func (.func 185) #[] #[.pointer (some ⟨w.heap.size + 1 + 1 + 1, 0, none⟩)], .int .i64 x.1, .agg #[.string x.2.f0, .string x.2.f1], undef, undef, undef, undef, undef, undef, undef, undef, undef, undef, undef, undef, undef, undef, undef], defers := [] })
  (fun x a' s X Y row hs hg hr => by
    obtain ⟨Bx, h1, h2, h3⟩ := hs
    refine ⟨Bx, h1, ?_, h3⟩
    refine (hg.block Bx (Array.getElem?_eq_some_iff.1 h2).1 (fun e => ?_)).trans h2
    obtain ⟨_, o, ho, hc⟩ := hr Bx e.symm
    rw [h2] at ho
    cases ho
    cases hc) ?assign ?body ?done ?stop
 case assign =>
  rintro l₁ pre x W K ⟨⟨e0, e1, e2, e3, e4⟩, hB⟩ hK
  gi_wp2
  refine hK _ _ ((KeepsOthers.alloc _ _).from _) ((Below.refl _ W).alloc (by have := e4.lt; omega) _) ⟨⟨e0, e1.alloc _, e2.alloc _, e3.alloc _, e4.alloc _⟩, hB.alloc hB.size _⟩ ⟨W.heap.size, ?_, World.alloc_heap_new W _, rfl⟩
  have := e4.lt
  omega
 case body =>
  rintro l₁ pre x a' W hl ⟨r, hr⟩ ⟨⟨e0, e1, e2, e3, e4⟩, hB⟩ ⟨Bx, hBx, bX, rfl⟩ hlt
  have hmx : Tryz.prog.follows .mixedOrders = true := by kernel_rfl
  have hls : Tryz.prog.follows .lateStores = true := by kernel_rfl
  have hic : Tryz.prog.follows .inlinedCapture = true := by kernel_rfl
  have cA := e1.cell
  have cx0 : W.cell? ⟨Bx, 0, none⟩ = some (.string x.2.f0) := by simp [World.cell?, bX]
  have cx1 : W.cell? ⟨Bx, 1, none⟩ = some (.string x.2.f1) := by simp [World.cell?, bX]
  have c4 := e2.cell
  have c5 := e3.cell
  have f4 := e2.frozen
  have f5 := e3.frozen
  by_cases hit : x.2.f0.toList = a.toList
  ·have h0 : (x.2.f0.toList == a.toList) = true := beq_iff_eq.mpr hit
   have hh := find_hit_snoc e0 (show hitB a x = true from h0)
   have HH := Aside0.mk hh
   clear hh hit
   by_cases ha : a.toList = []
   ·have ha0 : a.toList.isEmpty = true := by rw [ha]; rfl
    clear ha
    gi_wp2
    gi_region_with_o (fail)
    all_goals gi_wp2
    all_goals exact space_end (by rw [ha0]; rfl) HH.out e2 e3 hB
   ·have ha0 : a.toList.isEmpty = false := by simpa using ha
    clear ha
    by_cases hv : x.2.f1.toList = []
    ·have hv0 : x.2.f1.toList.isEmpty = true := by rw [hv]; rfl
     clear hv
     gi_wp2
     gi_region_with_o (fail)
     all_goals gi_wp2
     all_goals exact space_end (by rw [ha0, hv0]; rfl) HH.out e2 e3 hB
    ·have hv0 : x.2.f1.toList.isEmpty = false := by simpa using hv
     clear hv
     gi_wp2
     gi_region_with_o (fail)
     all_goals gi_wp2
     all_goals exact space_end (by rw [ha0, hv0]; rfl) HH.out e2 e3 hB
  ·have h0 : (x.2.f0.toList == a.toList) = false := beq_eq_false_iff_ne.mpr hit
   have hh := find_none_snoc e0 (show hitB a x = false from h0)
   have HH := Aside0.mk hh
   clear hh hit
   gi_wp2
   exact ⟨KeepsFrom.refl _ _, Below.refl _ _, ⟨HH.out, e1, e2, e3, e4⟩, hB⟩
 case done =>
  rintro D ys W hD rfl ⟨⟨e0, e1, e2, e3, e4⟩, hB⟩ hK
  have hmx : Tryz.prog.follows .mixedOrders = true := by kernel_rfl
  have cA := e1.cell
  have c4 := e2.cell
  have c5 := e3.cell
  have f4 := e2.frozen
  have f5 := e3.frozen
  have HS := Aside0.mk (spaceR_none e0)
  by_cases ha : a.toList = []
  ·have ha0 : a.toList.isEmpty = true := by rw [ha]; rfl
   clear ha
   gi_wp2
   gi_region_with_o (fail)
   all_goals gi_wp2
   all_goals
    obtain ⟨hK', b1, b2, hB'⟩ := done_facts (b := true) hK e2 e3 hB
    refine ⟨by simp, .inl ⟨_, _, rfl, run_takeDeferred hK', ?_⟩⟩
    have g2 := cell_kept b1.cell (grownBy_putObj' _ D (.deferred none)) (fun r e => by cases e; exact ⟨_, hK', rfl⟩)
    have g3 := cell_kept b2.cell (grownBy_putObj' _ D (.deferred none)) (fun r e => by cases e; exact ⟨_, hK', rfl⟩)
    refine ⟨.tuple #[.string ⟨#[]⟩, .bool true], ?_, ?_, hB'.trans (belowK_b (w := w) (Nat.le_refl _) _ D _ _ (by omega) hK' rfl rfl)⟩
    ·simp [results, Tryz.f140, go_sem, g2, g3]
    ·rw [HS.out, ha0]
  ·have ha0 : a.toList.isEmpty = false := by simpa using ha
   clear ha
   gi_wp2
   gi_region_with_o (fail)
   all_goals gi_wp2
   all_goals
    obtain ⟨hK', b1, b2, hB'⟩ := done_facts (b := false) hK e2 e3 hB
    refine ⟨by simp, .inl ⟨_, _, rfl, run_takeDeferred hK', ?_⟩⟩
    have g2 := cell_kept b1.cell (grownBy_putObj' _ D (.deferred none)) (fun r e => by cases e; exact ⟨_, hK', rfl⟩)
    have g3 := cell_kept b2.cell (grownBy_putObj' _ D (.deferred none)) (fun r e => by cases e; exact ⟨_, hK', rfl⟩)
    refine ⟨.tuple #[.string ⟨#[]⟩, .bool false], ?_, ?_, hB'.trans (belowK_b (w := w) (Nat.le_refl _) _ D _ _ (by omega) hK' rfl rfl)⟩
    ·simp [results, Tryz.f140, go_sem, g2, g3]
    ·rw [HS.out, ha0]
 case stop =>
  rintro D c pre W hD ⟨k, hk, rfl⟩ ⟨⟨rfl, p, e1, e2, e3⟩, hB⟩ hK
  have HS := Aside0.mk (spaceR_some (find_upto a (backAt l) k l.length hk p e1))
  gi_wp2
  refine ⟨by simp, .inl ⟨_, _, rfl, run_takeDeferred hK, ?_⟩⟩
  have g2 := cell_kept e2.cell (grownBy_putObj' _ D (.deferred none)) (fun r e => by cases e; exact ⟨_, hK, rfl⟩)
  have g3 := cell_kept e3.cell (grownBy_putObj' _ D (.deferred none)) (fun r e => by cases e; exact ⟨_, hK, rfl⟩)
  refine ⟨.tuple #[.string p.2.f1, .bool (a.toList.isEmpty || !p.2.f1.toList.isEmpty)], ?_, ?_, hB.trans (belowK_b (w := w) (Nat.le_refl _) W D _ _ (by omega) hK rfl rfl)⟩
  ·simp [results, Tryz.f140, go_sem, g2, g3]
  ·rw [HS.out]
end Go.Proofs.YtadgeghipimfiaaGreatDoor.X
end
