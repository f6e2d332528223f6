/- etag.commas, by hand: commas, and space. -/
import Derived.Test.YtodhbldnmepmaaaDoorXText
import Derived.Deep.LoopGhost
namespace Go.Proofs.YtodhbldnmepmaaaDoor.X
open Go.RowKit Go.Shelf Go.Proofs.YtodhbldnmepmaaaDoorW.PrintWords

theorem boxed_of {w wr : World} {b : Nat} {t : TypeId} {u v : Value} (hb : Boxed w b t u) (H : Below w.heap.size (w.setCell ⟨b, 0, none⟩ v) wr) : Boxed wr b t v :=
  (H.block b hb.lt).trans (hb.set v)
theorem below_step {w wr w2 : World} {b : Nat} {t : TypeId} {u v v' : Value} (hb : Boxed w b t u) (H : Below w.heap.size (w.setCell ⟨b, 0, none⟩ v) wr) (H2 : Below wr.heap.size (wr.setCell ⟨b, 0, none⟩ v') w2) : Below w.heap.size (w.setCell ⟨b, 0, none⟩ v') w2 := by
  have hs : w.heap.size ≤ wr.heap.size := by have := H.size; rw [Deep.nblk_setCell] at this; exact this
  have hbr := boxed_of hb H
  refine ⟨H2.os.trans H.os, H2.tape.trans H.tape, H2.output.trans H.output, ?_, fun k hk => ?_⟩
  · have := H2.size; rw [Deep.nblk_setCell] at this ⊢; omega
  · rw [H2.block k (by omega)]
    by_cases e : k = b
    · subst e
      exact (hbr.set v').trans (hb.set v').symm
    · rw [Below.heap_setCell _ _ _ _ (by exact e), Below.heap_setCell _ _ _ _ (by exact e), H.block k hk, Below.heap_setCell _ _ _ _ (by exact e)]

def skipL (l : List UInt8) : List UInt8 := Lib.trimLeftS l [32, 9]
def commasN : Nat → List UInt8 → Nat × List UInt8
  | 0, l => (0, l)
  | f + 1, l => if Lib.hasPrefix l [44] = true then ((commasN f (skipL (Lib.trimPrefix l [44]))).1 + 1, (commasN f (skipL (Lib.trimPrefix l [44]))).2) else (0, l)
theorem skipL_le (l : List UInt8) : (skipL l).length ≤ l.length := by
  unfold skipL Lib.trimLeftS
  exact (List.dropWhile_suffix _).length_le
theorem comma_len (l : List UInt8) (h : Lib.hasPrefix l [44] = true) : (Lib.trimPrefix l [44]).length + 1 = l.length := by
  unfold Lib.trimPrefix
  rw [if_pos h]
  cases l with
  | nil => simp [Lib.hasPrefix, List.isPrefixOf] at h
  | cons c t => simp
theorem comma_none (l : List UInt8) (h : Lib.hasPrefix l [44] = false) : Lib.trimPrefix l [44] = l := by
  unfold Lib.trimPrefix
  rw [h]
  rfl

set_option maxHeartbeats 1000000 in
set_option maxRecDepth 100000 in
theorem commas_calls (b : Nat) (s : ByteArray) (w : World) (hb : Boxed w b 62 (.string s)) (hs : (L s).length < 4611686018427387904) :
    Calls Tryd.prog 40 #[.pointer (some ⟨b, 0, none⟩)] w fun e w' => e = .returned (.int .i64 ((commasN ((L s).length + 1) (skipL (L s))).1 : Int)) ∧ Below w.heap.size (w.setCell ⟨b, 0, none⟩ (.string (M (commasN ((L s).length + 1) (skipL (L s))).2))) w' := by
  obtain ⟨R, hR⟩ : ∃ R, commasN ((L s).length + 1) (skipL (L s)) = R := ⟨_, rfl⟩
  rw [hR]
  have HB := Lib.hid hb
  have HR := Lib.hid hR
  have hlen := skipL_le (L s)
  generalize hF : (L s).length + 1 = F at *
  clear hb hR
  go_enter Tryd.func40, Tryd.ntmps40
  go_wp2_with fail
  refine (skip_calls b s w HB.out).mono ?_
  rintro e w1 ⟨rfl, h1⟩
  have H1 := Aside0.mk h1
  clear h1
  go_wp2
  go_loopg [2] F (fun kq v2 wr => ∃ (n : Nat) (l : List UInt8), v2 = .int .i64 n ∧ Aside0 (Below w.heap.size (w.setCell ⟨b, 0, none⟩ (.string (M l))) wr) ∧ Aside0 (n + (commasN kq l).1 = R.1 ∧ (commasN kq l).2 = R.2) ∧ Aside0 (l.length < kq) ∧ Aside0 (n + l.length < F) ∧ Aside0 (kq ≤ F))
  case atStart => exact ⟨0, skipL (L s), rfl, H1, ⟨by rw [HR.out]; omega, by rw [HR.out]⟩, ⟨by omega⟩, ⟨by omega⟩, ⟨Nat.le_refl _⟩⟩
  case round =>
    obtain ⟨n, l, rfl, HW, HE, HL, HN, HK⟩ := hrel
    cases gk with
    | zero => exact absurd HL.out (by omega)
    | succ k1 =>
      have hbx := boxed_of HB.out HW.out
      obtain ⟨t, ht⟩ : ∃ t, Lib.hasPrefix l [44] = t := ⟨_, rfl⟩
      have HT := Aside0.mk ht
      clear ht
      go_wp2_with fail
      refine (take_calls b (M l) ⟨#[44]⟩ _ hbx).mono ?_
      rintro e w2 ⟨rfl, h2⟩
      have hw2 := boxed_of hbx h2
      have H2 := Aside0.mk (below_step HB.out HW.out h2)
      clear h2
      rw [show Lib.hasPrefix (L (M l)) (L ⟨#[44]⟩) = t from HT.out]
      cases t with
      | false =>
        go_wp2
        go_ret
        have e1 : n = R.1 := by have := HE.out.1; rw [commasN, HT.out] at this; simpa using this
        have e2 : l = R.2 := by have := HE.out.2; rw [commasN, HT.out] at this; simpa using this
        have h3 := H2.out
        rw [show Lib.trimPrefix (L (M l)) (L ⟨#[44]⟩) = l from comma_none l HT.out, e2] at h3
        exact ⟨by rw [← e1]; rfl, h3⟩
      | true =>
        have hcl := comma_len l HT.out
        have hsl := skipL_le (Lib.trimPrefix l [44])
        have HS := Aside0.mk (show wrap64 ((n : Int) + 1) = ((n + 1 : Nat) : Int) by have := HN.out; unfold wrap64; omega)
        go_wp2_with fail
        refine (skip_calls b (M (Lib.trimPrefix l [44])) w2 hw2).mono ?_
        rintro e w3 ⟨rfl, h3⟩
        have H3 := Aside0.mk (below_step HB.out H2.out h3)
        clear h3
        go_wp2
        go_roundg k1
        case measure => have := HK.out; omega
        case rel =>
          have he := HE.out
          rw [commasN, if_pos HT.out] at he
          refine ⟨n + 1, skipL (Lib.trimPrefix l [44]), ?_, H3, ⟨by omega, he.2⟩, ⟨by have := HL.out; omega⟩, ⟨by have := HN.out; omega⟩, ⟨by have := HK.out; omega⟩⟩
          exact congrArg (Value.int IntKind.i64) HS.out
end Go.Proofs.YtodhbldnmepmaaaDoor.X
