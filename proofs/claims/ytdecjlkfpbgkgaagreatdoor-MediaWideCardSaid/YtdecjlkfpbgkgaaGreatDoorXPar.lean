/- media.Text's Value and Params, and media.Parse, walked by hand. -/
import Derived.Test.YtdecjlkfpbgkgaaGreatDoorXQuo
import Derived.Test.YtdecjlkfpbgkgaaGreatDoorXSmallF
namespace Go.Proofs.YtdecjlkfpbgkgaaGreatDoor.X
open Go.RowKit Go.Shelf Go.Proofs.YtdecjlkfpbgkgaaGreatDoorW.PrintWords Go.Proofs.YtdecjlkfpbgkgaaGreatDoor.F
set_option linter.unusedVariables false
set_option linter.unusedSimpArgs false
theorem boxed_of {w wr : World} {b : Nat} {t : TypeId} {u v : Value} (hb : Boxed w b t u) (H : Below w.heap.size (w.setCell ⟨b, 0, none⟩ v) wr) : Boxed wr b t v :=
  (H.block b hb.lt).trans (hb.set v)
theorem below_step {w wr w2 : World} {b : Nat} {t : TypeId} {u v v' : Value} (hb : Boxed w b t u) (H : Below w.heap.size (w.setCell ⟨b, 0, none⟩ v) wr) (H2 : Below wr.heap.size (wr.setCell ⟨b, 0, none⟩ v') w2) : Below w.heap.size (w.setCell ⟨b, 0, none⟩ v') w2 := by
  have hs : w.heap.size ≤ wr.heap.size := by have := H.size; rw [Deep.nblk_setCell] at this; exact this
  have hbr := boxed_of hb H
  refine ⟨H2.os.trans H.os, H2.tape.trans H.tape, H2.output.trans H.output, ?_, fun k hk => ?_⟩
  · have := H2.size; rw [Deep.nblk_setCell] at this ⊢; omega
  · rw [H2.block k (by omega)]
    by_cases e : k = b
    · subst e
      exact (hbr.set v').trans (hb.set v').symm
    · rw [Below.heap_setCell _ _ _ _ (by exact e), Below.heap_setCell _ _ _ _ (by exact e), H.block k hk, Below.heap_setCell _ _ _ _ (by exact e)]

/-- What Value answers, and what it leaves in the box. -/
def valueV (s : Bs) : Bs × Bool × Bs := if Lib.hasPrefix s [34] = true then quoV (Lib.trimPrefix s [34]) else (s.takeWhile tokB, !(s.takeWhile tokB).isEmpty, s.dropWhile tokB)
theorem quoted_len : ∀ (n : Nat) (acc s : Bs) {v r : Bs}, s.length ≤ n → quotedL acc s = some (v, r) → r.length < s.length ∧ v.length + r.length ≤ acc.length + s.length
  | 0, acc, s, v, r, hn, h => by
    have : s = [] := List.length_eq_zero_iff.1 (by omega)
    subst this
    rw [q_nil] at h
    cases h
  | n + 1, acc, s, v, r, hn, h => by
    cases s with
    | nil => rw [q_nil] at h; cases h
    | cons c t =>
      have hst := q_step acc (c :: t) 0 (by simp)
      rw [List.drop_zero, h] at hst
      simp only [List.length_cons] at hn ⊢
      split at hst
      · have h2 := Prod.mk.inj (Option.some.inj hst)
        have e1 := congrArg List.length h2.1
        have e2 := congrArg List.length h2.2
        rw [List.length_drop] at e2
        simp only [List.length_cons] at e2
        omega
      · split at hst
        · split at hst
          · split at hst
            · rename_i hl _
              have := quoted_len n _ _ (by rw [List.length_drop]; simp only [List.length_cons]; omega) hst.symm
              rw [List.length_drop] at this
              simp only [List.length_cons, List.length_append, List.length_nil] at this hl
              omega
            · cases hst
          · cases hst
        · split at hst
          · have := quoted_len n _ _ (by rw [List.length_drop]; simp only [List.length_cons]; omega) hst.symm
            rw [List.length_drop] at this
            simp only [List.length_cons, List.length_append, List.length_nil] at this
            omega
          · cases hst
theorem quoV_len (s : Bs) : (quoV s).2.2.length ≤ s.length ∧ (quoV s).1.length ≤ s.length := by
  unfold quoV
  cases h : quotedL [] s with
  | none => simp
  | some p =>
    have := quoted_len s.length [] s (v := p.1) (r := p.2) (Nat.le_refl _) h
    simp only [List.length_nil] at this ⊢
    omega
theorem tp_le (l p : Bs) : (Lib.trimPrefix l p).length ≤ l.length := by
  unfold Lib.trimPrefix
  split
  · rw [List.length_drop]; omega
  · exact Nat.le_refl _
theorem valueV_len (s : Bs) : (valueV s).2.2.length ≤ s.length ∧ (valueV s).1.length ≤ s.length := by
  unfold valueV
  split
  · have h1 := quoV_len (Lib.trimPrefix s [34])
    have h2 := tp_le s [34]
    omega
  · exact ⟨(List.dropWhile_suffix tokB).length_le, (List.takeWhile_prefix tokB).length_le⟩
set_option maxHeartbeats 4000000 in
set_option maxRecDepth 100000 in
theorem value_calls (b : Nat) (s : ByteArray) (w : World) (hb : Boxed w b 43 (.string s)) (hs : s.size ≤ 100000000000000) :
    Calls Tryz.prog 38 #[.pointer (some ⟨b, 0, none⟩)] w fun e w' => e = .returned (.tuple #[.string (M (valueV (L s)).1), .bool (valueV (L s)).2.1]) ∧ Below w.heap.size (w.setCell ⟨b, 0, none⟩ (.string (M (valueV (L s)).2.2))) w' := by
  have HB := Lib.hid hb
  have hz : (L s).length = s.size := rfl
  have htp := tp_le (L s) [34]
  clear hb
  obtain ⟨q, hq⟩ : ∃ x, Lib.hasPrefix (L s) [34] = x := ⟨_, rfl⟩
  obtain ⟨l1, hl1⟩ : ∃ x, Lib.trimPrefix (L s) [34] = x := ⟨_, rfl⟩
  rw [hl1] at htp
  have HQ := Lib.hid hq
  have HL := Lib.hid hl1
  clear hq hl1
  go_enter Tryz.func38, Tryz.ntmps38
  go_wp2_with fail
  refine (take_calls b s ⟨#[34]⟩ _ HB.out).mono ?_
  rintro e w1 ⟨rfl, h1⟩
  rw [show Lib.hasPrefix (L s) (L ⟨#[34]⟩) = q from HQ.out]
  rw [show Lib.trimPrefix (L s) (L ⟨#[34]⟩) = l1 from HL.out] at h1
  have b1 := boxed_of HB.out h1
  have B1 := Aside0.mk b1
  have H1 := Aside0.mk h1
  clear b1 h1
  cases q with
  | true =>
    have HV := Lib.hid (show valueV (L s) = quoV l1 from by unfold valueV; rw [if_pos HQ.out, HL.out])
    go_wp2_with fail
    refine (quoted_calls b (M l1) w1 B1.out (by show l1.length ≤ _; omega)).mono ?_
    rintro e w2 ⟨rfl, h2⟩
    have H2 := Aside0.mk (below_step HB.out H1.out h2)
    clear h2
    go_wp2
    go_ret2
    rw [HV.out]
    exact ⟨rfl, H2.out⟩
  | false =>
    have e1 : l1 = L s := by have := HL.out; unfold Lib.trimPrefix at this; rw [HQ.out] at this; exact this.symm
    subst e1
    have HV := Lib.hid (show valueV (L s) = ((L s).takeWhile tokB, !((L s).takeWhile tokB).isEmpty, (L s).dropWhile tokB) from by unfold valueV; rw [if_neg (by rw [HQ.out]; decide)])
    go_wp2_with fail
    refine (token_calls b s w1 B1.out (by omega)).mono ?_
    rintro e w2 ⟨rfl, rfl⟩
    have H2 := Aside0.mk (below_step (v' := .string (M ((L s).dropWhile tokB))) HB.out H1.out (Below.refl _ _))
    obtain ⟨m1, m2, m3⟩ := M_empty ((L s).takeWhile tokB)
    go_wp2
    go_ret2
    rw [HV.out]
    exact ⟨rfl, H2.out⟩
end Go.Proofs.YtdecjlkfpbgkgaaGreatDoor.X
