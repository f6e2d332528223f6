/- MediaFits: Param, Fits and Print of any types are the document's: the walk's premises hold. -/
import Derived.Test.YtdecjlkfpbgkgaaGreatDoorXLFits
import Derived.Test.YtdecjlkfpbgkgaaGreatDoorF4
import Derived.Test.YtdecjlkfpbgkgaaGreatDoorF5
namespace Go.Proofs.YtdecjlkfpbgkgaaGreatDoor.Pq
open Go.RowKit Go.Lib Go.Proofs.YtdecjlkfpbgkgaaGreatDoorW.PrintWords Go.Proofs.YtdecjlkfpbgkgaaGreatDoor.X Go.Proofs.YtdecjlkfpbgkgaaGreatDoor.Pm Go.Proofs.YtdecjlkfpbgkgaaGreatDoor.F
open Go.Proofs.YtdecjlkfpbgkgaaGreatDoor.U hiding Bs
open Classical in
noncomputable def FF (_ : Nat) (a0 a1 : ByteArray) (l : List S38) (b0 b1 : ByteArray) (m : List S38) (_ : ByteArray) : Option Bool := if FitsRow a0 a1 l ∧ FitsRow b0 b1 m then some true else none
theorem broadsheetlaw13_MediaFits.calls (k : Nat) (a0_0 : ByteArray) (a0_1 : ByteArray) (A0_2 : Option Addr) (c0_2 : Nat) (l0_2 : List S38) (a1_0 : ByteArray) (a1_1 : ByteArray) (A1_2 : Option Addr) (c1_2 : Nat) (l1_2 : List S38) (a2 : ByteArray) (r : Bool) (w : World) (hr0_2 : Kd.C k38 w A0_2 l0_2.length l0_2) (hc0_2 : l0_2.length ≤ c0_2) (hr1_2 : Kd.C k38 w A1_2 l1_2.length l1_2) (hc1_2 : l1_2.length ≤ c1_2) (h : FF k a0_0 a0_1 l0_2 a1_0 a1_1 l1_2 a2 = some r) :
    Calls Tryz.prog 4 #[.agg #[.string a0_0, .string a0_1, .slice A0_2 l0_2.length c0_2], .agg #[.string a1_0, .string a1_1, .slice A1_2 l1_2.length c1_2], .string a2] w fun e w' => e = .returned (.bool r) ∧ Below w.heap.size w w' := by
  unfold FF at h
  split at h
  · rename_i hw
    obtain rfl := Option.some.inj h
    obtain ⟨k1, q1⟩ := Ev.rounds (rfew_ev a0_0 a0_1 l0_2 hw.1)
    obtain ⟨k2, q2⟩ := Ev.rounds (rfew_ev a1_0 a1_1 l1_2 hw.2)
    cases hf : fewV a0_0 a0_1 l0_2 with
    | false =>
      rw [hf] at q1
      exact lfits_one a0_0 a0_1 A0_2 c0_2 l0_2 a1_0 a1_1 A1_2 c1_2 l1_2 a2 w hr0_2 hc0_2 hr1_2 hc1_2 k1 k2 q1
    | true =>
      rw [hf] at q1
      cases hg : fewV a1_0 a1_1 l1_2 with
      | false =>
        rw [hg] at q2
        exact lfits_two a0_0 a0_1 A0_2 c0_2 l0_2 a1_0 a1_1 A1_2 c1_2 l1_2 a2 w hr0_2 hc0_2 hr1_2 hc1_2 k1 k2 q1 q2
      | true =>
        rw [hg] at q2
        have vl := few_lt hf
        have vm := few_lt hg
        have ll := few_len hf
        have lm := few_len hg
        have tm := few_tot hg
        obtain ⟨k3, p3⟩ := Ev.rounds (rparam_ev a1_0 a1_1 l1_2 a2 (by omega))
        obtain ⟨k4, p4⟩ := Ev.rounds (rfits_ev a0_0 a0_1 l0_2 a1_0 a1_1 l1_2 (by omega) (by omega) vl vm)
        obtain ⟨k5, p5⟩ := Ev.rounds (rprint_ev a1_0 a1_1 l1_2 (by omega) (by omega))
        exact lfits_main a0_0 a0_1 A0_2 c0_2 l0_2 a1_0 a1_1 A1_2 c1_2 l1_2 a2 w hr0_2 hc0_2 hr1_2 hc1_2 k1 k2 k3 k4 k5 q1 q2 p3 (fun x hx => Nat.le_of_lt (vl x hx)) (fun x hx => Nat.le_of_lt (vm x hx)) _ _ rfl p4 (gprint a1_0 a1_1 l1_2 (by omega) (by omega)) p5
  · cases h
end Go.Proofs.YtdecjlkfpbgkgaaGreatDoor.Pq
namespace Go.Proofs.YtdecjlkfpbgkgaaGreatDoor.Pure
theorem MediaFits (a0 a1 : ByteArray) (l : List Pm.S38) (b0 b1 : ByteArray) (m : List Pm.S38) (n : ByteArray) (h0 : F.FitsRow a0 a1 l) (h1 : F.FitsRow b0 b1 m) : ∃ k, Pq.FF k a0 a1 l b0 b1 m n = some true := ⟨0, if_pos ⟨h0, h1⟩⟩
end Go.Proofs.YtdecjlkfpbgkgaaGreatDoor.Pure
