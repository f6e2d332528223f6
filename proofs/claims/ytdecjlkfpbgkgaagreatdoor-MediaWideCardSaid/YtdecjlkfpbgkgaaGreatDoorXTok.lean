/- media.Text's Token, and field.token, by hand. -/
import Derived.Test.YtdecjlkfpbgkgaaGreatDoorXText
import Derived.Test.YtdecjlkfpbgkgaaGreatDoorF0
import Derived.Test.YtdecjlkfpbgkgaaGreatDoorU0
namespace Go.Proofs.YtdecjlkfpbgkgaaGreatDoor.X
open Go.RowKit Go.Shelf Go.Proofs.YtdecjlkfpbgkgaaGreatDoorW.PrintWords
open Go.Proofs.YtdecjlkfpbgkgaaGreatDoor.F (tokB fieldTok signsS tok_ask tw_drop)
theorem M_extract (s : ByteArray) (a b : Nat) : s.extract a b = M (((L s).take b).drop a) := by
  have : (s.extract a b).data = (M (((L s).take b).drop a)).data := by
    rw [ByteArray.data_extract]
    apply Array.ext'
    rw [Array.toList_extract, List.extract_eq_drop_take']
  cases h1 : s.extract a b
  rw [h1] at this
  simp only at this
  rw [this]
theorem M_take (s : ByteArray) (i : Nat) : s.extract 0 i = M ((L s).take i) := by rw [M_extract, List.drop_zero]
theorem M_drop (s : ByteArray) (i : Nat) : s.extract i s.size = M ((L s).drop i) := by rw [M_extract, List.take_of_length_le (show (L s).length ≤ s.size from Nat.le_refl _)]
theorem tok_idx (c : UInt8) (w : World) : ∃ z : Int, decide (0 ≤ z) = tokB c ∧ Calls Tryz.prog 36 #[.string (M signsS), .int .u8 (c.toNat : Int)] w (fun e w' => e = .returned (.int .i64 z) ∧ w' = w) :=
  ⟨_, tok_ask c, Tryz.strings_IndexByte (M signsS) (c.toNat : Int) w⟩
set_option maxHeartbeats 1000000 in
set_option maxRecDepth 100000 in
theorem token_calls (b : Nat) (s : ByteArray) (w : World) (hb : Boxed w b 43 (.string s)) (hs : s.size < 4611686018427387904) :
    Calls Tryz.prog 22 #[.pointer (some ⟨b, 0, none⟩)] w fun e w' => e = .returned (.string (M ((L s).takeWhile tokB))) ∧ w' = w.setCell ⟨b, 0, none⟩ (.string (M ((L s).dropWhile tokB))) := by
  have hc := hb.cell
  have hf := hb.frozen
  have hz : (L s).length = s.size := rfl
  clear hb
  go_enter Tryz.func22, Tryz.ntmps22
  go_wp2
  go_loopg [3] (s.size + 1) (fun kq v3 wr => ∃ (i : Nat), v3 = .int .i64 i ∧ wr = w ∧ Aside0 ((L s).takeWhile tokB = (L s).take i ++ ((L s).drop i).takeWhile tokB ∧ (L s).dropWhile tokB = ((L s).drop i).dropWhile tokB) ∧ Aside0 (i + kq = s.size + 1 ∧ i ≤ s.size))
  case atStart => exact ⟨0, rfl, rfl, ⟨rfl, rfl⟩, ⟨by omega, by omega⟩⟩
  case round =>
    obtain ⟨i, rfl, rfl, HE, HK⟩ := hrel
    cases gk with
    | zero => exact absurd HK.out (by omega)
    | succ k1 =>
      by_cases hi : i < s.size
      · have hlt : decide ((i : Int) < (s.size : Int)) = true := decide_eq_true (by omega)
        have hlt2 : decide (i < s.size) = true := decide_eq_true (by omega)
        have hst := tw_drop tokB (L s) i (by omega)
        obtain ⟨z, hz0, HC⟩ := tok_idx ((L s)[i]'(by omega)) wr
        obtain ⟨q, hq⟩ : ∃ q, tokB ((L s)[i]'(by omega)) = q := ⟨_, rfl⟩
        rw [hq] at hz0 hst
        have HS := Aside0.mk hst
        have HT := Aside0.mk (List.take_succ_eq_append_getElem (l := L s) (i := i) (by omega))
        clear hst hq
        go_wp2_with fail
        refine HC.mono ?_
        rintro e w9 ⟨rfl, rfl⟩
        clear HC
        cases q with
        | true =>
          go_wp2
          go_roundg k1
          case measure => omega
          case rel =>
            refine ⟨i + 1, rfl, rfl, ⟨?_, ?_⟩, ⟨by have := HK.out; omega, by omega⟩⟩
            · rw [HE.out.1, HT.out, HS.out.1]; simp
            · rw [HE.out.2, HS.out.2]; rfl
        | false =>
          have hle : i ≤ s.size := by omega
          go_wp2
          go_ret
          have e1 : (L s).takeWhile tokB = (L s).take i := by rw [HE.out.1, HS.out.1]; simp
          have e2 : (L s).dropWhile tokB = (L s).drop i := by rw [HE.out.2, HS.out.2]; simp
          rw [e1, e2, ← M_take, ← M_drop]
          exact ⟨rfl, rfl⟩
      · have hlt : decide ((i : Int) < (s.size : Int)) = false := decide_eq_false (by omega)
        have hlt2 : decide (i < s.size) = false := decide_eq_false (by omega)
        have hle : i ≤ s.size := HK.out.2
        go_wp2
        go_ret
        have hi2 : i = (L s).length := by omega
        have e1 : (L s).takeWhile tokB = (L s).take i := by rw [HE.out.1, List.drop_eq_nil_of_le (by omega)]; simp
        have e2 : (L s).dropWhile tokB = (L s).drop i := by rw [HE.out.2, List.drop_eq_nil_of_le (by omega)]; rfl
        rw [e1, e2, ← M_take, ← M_drop]
        exact ⟨rfl, rfl⟩
theorem M_toList (l : List UInt8) : (M l).toList = l := U.B_toList l
/-- A text against the empty one, in all the walk's spellings. -/
theorem M_empty (l : List UInt8) : (M l).toList.isEmpty = l.isEmpty ∧ ((M l).toList == ([] : List UInt8)) = l.isEmpty ∧ ((M l).toList != ([] : List UInt8)) = !l.isEmpty := by
  rw [M_toList]
  cases l <;> exact ⟨rfl, rfl, rfl⟩
end Go.Proofs.YtdecjlkfpbgkgaaGreatDoor.X
