/- field.lines, by hand: the iterator over a text's lines. -/
import Derived.Shelf.Abstract
import Derived.Shelf.RegionOpen
import Derived.OwnWalkIn
import Derived.TacticsInMore
import Derived.RegionIn
import Derived.BigRegionIn
import Derived.LoopNIn
import Derived.LoopIn
import Derived.Outline
import Derived.Test.YtodhbldnmepmaaaDoorXSeq
namespace Go.Proofs.YtodhbldnmepmaaaDoor.X
open Go.RowKit Go.Shelf Go.Proofs.YtodhbldnmepmaaaDoorW.PrintWords
open Go.Proofs.YtodhbldnmepmaaaDoor.F (lineL line_some line_len cut_two)
attribute [local go_sem] Oper.semAt_some
abbrev Bs := List UInt8
/-- All lines of a text, each with what stands behind it. -/
def linesN : Nat → Bs → List (Bs × Bs)
  | 0, _ => []
  | f + 1, s => match lineL s with
    | none => []
    | some p => p :: linesN f p.2
def linesL (s : Bs) : List (Bs × Bs) := linesN (s.length + 1) s
theorem lines_fuel : ∀ (f g : Nat) (s : Bs), s.length < f → s.length < g → linesN f s = linesN g s := by
  intro f
  induction f with
  | zero => intro g s h; omega
  | succ f ih =>
    intro g s h1 h2
    cases g with
    | zero => omega
    | succ g =>
      unfold linesN
      cases hl : lineL s with
      | none => rfl
      | some p =>
        have := line_len (l := s) (a := p.1) (b := p.2) hl
        simp only
        rw [ih g p.2 (by omega) (by omega)]
theorem lines_none {s : Bs} (h : lineL s = none) : linesL s = [] := by unfold linesL linesN; rw [h]
theorem lines_some {s : Bs} {p : Bs × Bs} (h : lineL s = some p) : linesL s = p :: linesL p.2 := by
  have hl := line_len (l := s) (a := p.1) (b := p.2) h
  unfold linesL
  conv => lhs; unfold linesN
  rw [h]
  simp only
  rw [lines_fuel s.length (p.2.length + 1) p.2 (by omega) (by omega)]
abbrev lineEnc (x : Bs × Bs) : Array Value := #[.string (M x.1), .string (M x.2)]
/-- What a round of the caller keeps: the iterator's box, and the library's variable. -/
def KpL (B : Nat) (W W' : World) : Prop := W'.heap[B]? = W.heap[B]? ∧ W'.heap[2]? = W.heap[2]?
theorem KpL.t {B : Nat} {X Y Z : World} (h : KpL B X Y) (k : KpL B Y Z) : KpL B X Z := ⟨k.1.trans h.1, k.2.trans h.2⟩
theorem lines_mem : ∀ (f : Nat) (s : Bs) (x : Bs × Bs), x ∈ linesN f s → x.1.length + x.2.length ≤ s.length := by
  intro f
  induction f with
  | zero => intro s x h; cases h
  | succ f ih =>
    intro s x h
    unfold linesN at h
    cases hl : lineL s with
    | none => rw [hl] at h; cases h
    | some p =>
      rw [hl] at h
      have := line_len (l := s) (a := p.1) (b := p.2) hl
      rcases List.mem_cons.1 h with rfl | h
      · omega
      · have := ih p.2 x h; omega
theorem lines_many : ∀ (f : Nat) (s : Bs), (linesN f s).length ≤ s.length := by
  intro f
  induction f with
  | zero => intro s; simp [linesN]
  | succ f ih =>
    intro s
    unfold linesN
    cases hl : lineL s with
    | none => simp
    | some p =>
      have := line_len (l := s) (a := p.1) (b := p.2) hl
      have := ih p.2
      simp only [List.length_cons]
      omega
def boxLen (B : Nat) (W : World) : Nat := match W.cell? ⟨B, 0, none⟩ with
  | some (.string s) => s.size
  | _ => 0
theorem boxLen_of {B : Nat} {W : World} {s : ByteArray} (h : Boxed W B 9 (.string s)) : boxLen B W = s.size := by
  unfold boxLen; rw [h.cell]
theorem drewN_of {β : Type} {J : β → World → Prop} (h : ∀ s W, J s W → J s W.drew) (s : β) (W : World) (n : Nat) (hs : J s W) : J s (W.drewN n) := by
  induction n with
  | zero => exact hs
  | succ n ih => rw [← World.drew_drewN]; exact h _ _ ih
theorem take_next {α : Type} {X R : List α} {k : Nat} {p : α} (h : X = X.take k ++ p :: R) (hk : k < X.length) : X.take (k + 1) = X.take k ++ [p] ∧ X = X.take (k + 1) ++ R := by
  have hl : (X.take k).length = k := by rw [List.length_take]; omega
  generalize X.take k = A at h hl
  subst h
  have e : A ++ p :: R = (A ++ [p]) ++ R := by simp
  have e2 : (A ++ p :: R).take (k + 1) = A ++ [p] := by
    rw [e, List.take_left' (by simp [hl])]
  exact ⟨e2, by rw [e2]; exact e⟩
set_option maxHeartbeats 1000000 in
theorem lines_calls (s : ByteArray) (w : World) : Calls Tryd.prog 46 #[.string s] w fun e w' => e = .returned (.func (.func 71) #[] #[.pointer (some ⟨w.heap.size, 0, none⟩)]) ∧ w' = w.alloc (.cells #[.string s] 9) := by
  have hmf : ∀ (fn : Fn) (first cap : Array Value) (w : World), (Instr.makeFunc fn first cap).run Tryd.prog w = .ok (.func fn first cap) w := fun _ _ _ _ => rfl
  go_enter Tryd.func46, Tryd.ntmps46
  go_wp2
  go_ret
  exact ⟨rfl, rfl⟩
set_option maxRecDepth 100000 in
set_option maxHeartbeats 2000000 in
theorem lines_seq (n B : Nat) (hn : 1 ≤ n) (s : ByteArray) (hs : s.size < 4294967281) (w : World) (hG : Glob w) (hb : Boxed w B 9 (.string s)) (hB : B ≠ 2) :
    SeqBox Fence.wide n Tryd.prog 71 #[.pointer (some ⟨B, 0, none⟩)] lineEnc (KpL B) (fun ys => ys = linesL (L s)) (fun pre => ∃ k, k ≤ (linesL (L s)).length ∧ pre = (linesL (L s)).take k) (linesL (L s)).length B w := by
  intro l J Jx W hW hJb hJd hY h0
  have hb0 : Boxed W B 9 (.string s) := (hW.block B hb.lt).trans hb
  have hG0 : Glob W := hG.below hW
  have HJB := Aside0.mk hJb
  have HJD := Aside0.mk hJd
  have HY := Aside0.mk hY
  clear hJb hJd hY hb hG hW
  have hz : (L s).length = s.size := rfl
  refine callsIn_of_wp Tryd.func71 rfl trivial ?_ rfl
  simp only [Tryd.ntmps71, List.size_toArray, List.length_cons, List.length_nil, Nat.reduceAdd, Nat.reduceSub, Array.replicate_succ, Array.replicate_zero, List.push_toArray, List.append_toArray, List.nil_append, List.cons_append]
  gi_wp2
  gi_loopw [3] (fun v3 wr => ∃ (k : Nat) (cur : Bs), Aside0 ((linesL (L s)) = (linesL (L s)).take k ++ linesL cur ∧ k + (linesL cur).length = (linesL (L s)).length) ∧ Aside0 (Boxed wr B 9 (.string (M cur))) ∧ Aside0 (J ((linesL (L s)).take k) wr) ∧ Aside0 (Glob wr) ∧ Aside0 (cur.length ≤ s.size))
    (fun _ wr => boxLen B wr)
  case atStart => exact ⟨0, L s, ⟨rfl, by omega⟩, ⟨hb0⟩, ⟨h0⟩, ⟨hG0⟩, ⟨Nat.le_refl _⟩⟩
  case round =>
    obtain ⟨k, cur, HE, HBX, HJ, HG, HL⟩ := hrel
    have cb := HBX.out.cell
    have fb := HBX.out.frozen
    obtain ⟨m, hm⟩ := HG.out.max
    have HM := Aside0.mk (boxLen_of HBX.out)
    gi_wp2_with fail
    refine ⟨trivial, (callsIn_wide.2 (Tryd.strings_Cut (M cur) ⟨#[13, 10]⟩ m wr (by have := HL.out; show cur.length < _; omega) hm)).mono ?_⟩
    rintro e w9 ⟨rfl, nn, rfl⟩
    rw [show Lib.cut (M cur).data.toList (⟨#[13, 10]⟩ : ByteArray).data.toList = Lib.cut cur [13, 10] from rfl, cut_two]
    have HBX9 := Aside0.mk (show Boxed (wr.drewN nn) B 9 (.string (M cur)) from HBX.out)
    have HJ9 := Aside0.mk (drewN_of HJD.out _ _ nn HJ.out)
    have HG9 := Aside0.mk (HG.out.below (below_drewN wr nn))
    clear cb fb hm HBX HJ HG
    generalize wr.drewN nn = w9 at *
    cases hl : lineL cur with
    | none =>
      have HE2 := lines_none hl
      rw [HE2] at HE
      clear HE2 hl
      gi_wp2
      refine ⟨fun f h => (by cases h), ?_⟩
      gi_wp2
      refine bodyPost_ret (results_none rfl _ _ _) rfl ?_
      refine ⟨⟨_, rfl⟩, .inl ⟨_, rfl, ?_⟩⟩
      have e1 := HE.out.1
      rw [List.append_nil] at e1
      rw [e1]
      exact HJ9.out
    | some p =>
      have hlen := line_len (l := cur) (a := p.1) (b := p.2) hl
      have HE2 := lines_some hl
      rw [HE2] at HE
      clear HE2 hl
      have hk : k < (linesL (L s)).length := by have := HE.out.2; rw [List.length_cons] at this; omega
      obtain ⟨fn, tmps, assign, body, hy, hR⟩ := HY.out _ p w9 HJ9.out (by rw [List.length_take]; omega) ⟨k + 1, by omega, (take_next HE.out.1 hk).1.symm⟩
      dsimp only [lineEnc] at hy
      have cb := HBX9.out.cell
      have fb := HBX9.out.frozen
      gi_wp2
      refine hR.mono ?_
      rintro e W3 (⟨rfl, hJ3, hK3⟩ | ⟨rfl, hJx3⟩)
      · have hb3 : Boxed W3 B 9 (.string (M cur)) := hK3.1.trans HBX9.out
        have cb3 := hb3.cell
        have fb3 := hb3.frozen
        have HB3 := Aside0.mk (hb3.set (.string (M p.2)))
        have HJ3 := Aside0.mk (HJB.out _ _ (.string (M p.2)) hJ3)
        have HG3 := Aside0.mk (show Glob (W3.setCell ⟨B, 0, none⟩ (.string (M p.2))) from by
          obtain ⟨m', hm'⟩ := HG9.out.max
          exact ⟨m', (World.cell?_of_block ((Below.heap_setCell W3 ⟨B, 0, none⟩ _ 2 (by exact fun e => hB e.symm)).trans hK3.2)).trans hm'⟩)
        clear hb3 hJ3 hK3 cb fb
        gi_wp2
        go_roundw
        case rel =>
          refine ⟨k + 1, p.2, ⟨?_, ?_⟩, HB3, ⟨?_⟩, HG3, ⟨by have := HL.out; omega⟩⟩
          · exact (take_next HE.out.1 hk).2
          · have := HE.out.2; rw [List.length_cons] at this; omega
          · rw [(take_next HE.out.1 hk).1]; exact HJ3.out
        case measure =>
          rw [boxLen_of HB3.out, HM.out]
          show p.2.length < cur.length
          omega
      · gi_wp2
        refine bodyPost_ret (results_none rfl _ _ _) rfl ?_
        exact ⟨⟨_, rfl⟩, .inr ⟨_, ⟨k + 1, by omega, (take_next HE.out.1 hk).1.symm⟩, hJx3⟩⟩
end Go.Proofs.YtodhbldnmepmaaaDoor.X
