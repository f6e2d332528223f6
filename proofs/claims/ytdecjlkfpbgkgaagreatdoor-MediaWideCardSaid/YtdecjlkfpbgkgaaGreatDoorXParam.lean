/- media.Param, walked by hand. -/
import Derived.Test.YtdecjlkfpbgkgaaGreatDoorXMPrint
namespace Go.Proofs.YtdecjlkfpbgkgaaGreatDoor.X
open Go.RowKit Go.Shelf Go.Proofs.YtdecjlkfpbgkgaaGreatDoorW.PrintWords Go.Proofs.YtdecjlkfpbgkgaaGreatDoorW.PrintLast Go.Proofs.YtdecjlkfpbgkgaaGreatDoorW.PrintMore Go.Proofs.YtdecjlkfpbgkgaaGreatDoor.F Go.Proofs.YtdecjlkfpbgkgaaGreatDoor.Pm
set_option linter.unusedVariables false
set_option linter.unusedSimpArgs false
def sameN (n : ByteArray) (x : S38) : Bool := x.f0.toList == n.toList
def paramW (m : List S38) (n : ByteArray) : ByteArray × Bool := match m.find? (sameN n) with | some x => (x.f1, true) | none => (⟨#[]⟩, false)
theorem paramW_at (m : List S38) (n : ByteArray) (i : Nat) (h : i < m.length) : paramW (m.drop i) n = if sameN n m[i] = true then (m[i].f1, true) else paramW (m.drop (i + 1)) n := by
  unfold paramW
  rw [List.drop_eq_getElem_cons h, List.find?_cons]
  cases sameN n m[i] <;> rfl
set_option maxHeartbeats 4000000 in
set_option maxRecDepth 100000 in
theorem param_calls (t u : ByteArray) (A : Option Addr) (c : Nat) (l : List S38) (n : ByteArray) (w : World) (hC : Kd.C k38 w A l.length l) (hc : l.length ≤ c) :
    Calls Tryz.prog 14 #[.agg #[.string t, .string u, .slice A l.length c], .string n] w fun e w' => e = .returned (.tuple #[.string (paramW l n).1, .bool (paramW l n).2]) ∧ Below w.heap.size w w' := by
  have HC := Aside0.mk hC
  have hm := Kd.C_max hC
  have hu25 := Tryz.underlying25
  have hu38 := Tryz.underlying38
  have hk0 := Tri.new w 25 (.string t) (.string u) (.slice A l.length c)
  have hB0 : Below w.heap.size w (w.alloc (.cells #[.string t, .string u, .slice A l.length c] 25)) := (Below.refl _ _).alloc (Nat.le_refl _) _
  obtain ⟨W0, hW0⟩ : ∃ x, w.alloc (.cells #[.string t, .string u, .slice A l.length c] 25) = x := ⟨_, rfl⟩
  rw [hW0] at hk0 hB0
  have HB0 := Aside0.mk hB0
  have d2 := hk0.c2
  clear hC hB0
  go_enter Tryz.func14, Tryz.ntmps14
  go_wp2_with fail
  go_loopg [11] (l.length + 1) (fun kq v11 wr => ∃ (i : Nat), v11 = .int .i64 i ∧ Aside0 (Below w.heap.size w wr) ∧ Aside0 (paramW l n = paramW (l.drop i) n) ∧ Aside0 (i + kq = l.length + 1 ∧ i ≤ l.length))
  case atStart => exact ⟨0, rfl, HB0, ⟨rfl⟩, ⟨by omega, by omega⟩⟩
  case round =>
    obtain ⟨i, rfl, HB, HE, HK⟩ := hrel
    cases gk with
    | zero => exact absurd HK.out (by omega)
    | succ k1 =>
      by_cases hi : i < l.length
      · obtain ⟨ad, rfl, x0, x1⟩ := at_T38 (Kd.C_below HC.out HB.out) (i : Int) (by omega) (by omega)
        have hrd : rd_T38 l (i : Int) = l[i]'hi := by
          unfold rd_T38
          rw [Int.toNat_natCast, List.getD_eq_getElem?_getD, List.getElem?_eq_getElem hi, Option.getD_some]
        have hst := paramW_at l n i hi
        rw [hrd] at x0 x1
        clear hrd
        generalize l[i]'hi = x at x0 x1 hst
        rw [Int.toNat_natCast] at x0 x1
        have hlt : decide ((i : Int) < (l.length : Int)) = true := decide_eq_true (by omega)
        have p1 := eq_true (show 0 ≤ (i : Int) by omega)
        have p2 := eq_true (show (i : Int) < (l.length : Int) by omega)
        obtain ⟨q, hq⟩ : ∃ q, (x.f0.toList == n.toList) = q := ⟨_, rfl⟩
        rw [show sameN n x = q from hq] at hst
        have HST := Aside0.mk (HE.out.trans hst)
        have HBn := Aside0.mk (HB.out.alloc HB.out.size (.cells #[.string x.f0, .string x.f1] 38))
        clear hst HE
        cases q with
        | true =>
          go_wp2
          go_ret2
          rw [HST.out]
          exact ⟨rfl, HBn.out⟩
        | false =>
          go_wp2
          go_roundg k1
          case measure => omega
          case rel => exact ⟨i + 1, congrArg (Value.int IntKind.i64) (show (i : Int) + 1 = ((i + 1 : Nat) : Int) from rfl), HBn, ⟨by rw [HST.out]; rfl⟩, ⟨by have := HK.out; omega, by omega⟩⟩
      · have hlt : decide ((i : Int) < (l.length : Int)) = false := decide_eq_false (by omega)
        have HF := Aside0.mk (show paramW l n = (⟨#[]⟩, false) from by rw [HE.out, List.drop_eq_nil_of_le (by omega)]; rfl)
        go_wp2
        go_ret2
        rw [HF.out]
        exact ⟨rfl, HB.out⟩
end Go.Proofs.YtdecjlkfpbgkgaaGreatDoor.X
