/- The law LocatorBack, walked by hand: what is parsed is told as it was. -/
import Derived.Test.YtldancekpigkaaaDoorWEqStruct
import Derived.Test.YtldancekpigkaaaDoorXAwake
import Derived.Test.YtldancekpigkaaaDoorS5
import Derived.BigQuiet
import Derived.Deep.QuietTactic
namespace Go.Proofs.YtldancekpigkaaaDoor.X
open Go.RowKit Go.Shelf Go.Proofs.YtldancekpigkaaaDoorW.PrintWords Go.Proofs.YtldancekpigkaaaDoorW.PrintLast Go.Proofs.YtldancekpigkaaaDoorW.PrintMore Go.Proofs.YtldancekpigkaaaDoor.Pl Go.Proofs.YtldancekpigkaaaDoor.S
open Go.Proofs.YtldancekpigkaaaDoor.U (B Bs B_size B_eta)

theorem eqUri (n : Nat) (w : World) (a b c d e a' b' c' d' e' : ByteArray) (p q r t p' q' r' t' : Bool) :
    (Op.equalIn (n + 2) 24 (.agg (uriC a b c d e p q r t)) (.agg (uriC a' b' c' d' e' p' q' r' t'))).run Tryd.prog w = .ok (a.toList == a'.toList && (b.toList == b'.toList && (c.toList == c'.toList && (d.toList == d'.toList && (e.toList == e'.toList && (p == p' && (q == q' && (r == r' && t == t')))))))) w := by
  refine eqA_of Tryd.underlying24 (by kernel_rfl) ?_
  refine eqf_cons (by rfl) (by go_simp; rfl) (by go_simp; rfl) (by go_simp) ?_
  refine eqf_cons (by rfl) (by go_simp; rfl) (by go_simp; rfl) (by go_simp) ?_
  refine eqf_cons (by rfl) (by go_simp; rfl) (by go_simp; rfl) (by go_simp) ?_
  refine eqf_cons (by rfl) (by go_simp; rfl) (by go_simp; rfl) (by go_simp) ?_
  refine eqf_cons (by rfl) (by go_simp; rfl) (by go_simp; rfl) (by go_simp) ?_
  refine eqf_cons (by rfl) (by go_simp; rfl) (by go_simp; rfl) (by go_simp) ?_
  refine eqf_cons (by rfl) (by go_simp; rfl) (by go_simp; rfl) (by go_simp) ?_
  refine eqf_cons (by rfl) (by go_simp; rfl) (by go_simp; rfl) (by go_simp) ?_
  exact eqf_last (by rfl) (by go_simp; rfl) (by go_simp; rfl) (by go_simp)
attribute [local go_sem high] eqUri

theorem beq_B (s : Bs) : ((B s).toList == (B s).toList) = true := beq_self_eq_true _
set_option maxHeartbeats 2000000 in
set_option maxRecDepth 100000 in
theorem back_calls (s : Bs) (w : World) (hG : Glob w) : Calls Tryd.prog 6 #[.string (B s)] w fun e w' => e = .returned (.bool true) ∧ Below w.heap.size w w' := by
  have HG := Lib.hid hG
  clear hG
  have hu24 := Tryd.underlying24
  by_cases hs : s.length > 2000
  · have f0 : decide ((2000 : Int) < ((B s).size : Int)) = true := decide_eq_true (by rw [B_size]; omega)
    have f1 : decide (2000 < (B s).size) = true := decide_eq_true (by rw [B_size]; omega)
    clear hs
    go_enter Tryd.func6, Tryd.ntmps6
    go_wp2_with fail
    refine (awake_calls w HG.out).mono ?_
    rintro x w1 ⟨rfl, h1⟩
    go_wp2
    go_ret
    exact ⟨rfl, h1⟩
  · have f0 : decide ((2000 : Int) < ((B s).size : Int)) = false := decide_eq_false (by rw [B_size]; omega)
    have f1 : decide (2000 < (B s).size) = false := decide_eq_false (by rw [B_size]; omega)
    obtain ⟨k, hk⟩ := Ev.rounds (gparse_ev s (by omega))
    have hp := gprint_split s (by omega)
    clear hs
    rcases parse_cases s with h | h
    · rw [h] at hk
      go_enter Tryd.func6, Tryd.ntmps6
      go_wp2_with fail
      refine (awake_calls w HG.out).mono ?_
      rintro x w1 ⟨rfl, h1⟩
      go_wp2_with fail
      refine (locator_Parse.calls k (B s) _ _ _ _ _ _ _ _ _ _ w1 (HG.out.below h1) hk).mono ?_
      rintro x w2 ⟨rfl, h2⟩
      go_wp2
      go_ret
      exact ⟨rfl, (h1.trans (h2.mono h1.size)).alloc (h1.trans (h2.mono h1.size)).size _⟩
    · rw [h] at hk
      generalize splitV s = u at hk hp
      obtain ⟨u1, u2, u3, u4, u5, u6, u7, u8, u9⟩ := u
      have hbq := beq_B s
      generalize hb : B s = b at *
      go_enter Tryd.func6, Tryd.ntmps6
      go_wp2_with fail
      refine (awake_calls w HG.out).mono ?_
      rintro x w1 ⟨rfl, h1⟩
      go_wp2_with fail
      refine (locator_Parse.calls k b _ _ _ _ _ _ _ _ _ _ w1 (HG.out.below h1) hk).mono ?_
      rintro x w2 ⟨rfl, h2⟩
      have hb2 := h1.trans (h2.mono h1.size)
      go_wp2_with fail
      refine (locator_Print.calls _ _ _ _ _ _ _ _ _ _ _ hp).mono ?_
      rintro x w3 ⟨rfl, h3⟩
      have hb3 := (hb2.alloc hb2.size (.cells (uriC u1 u2 u3 u4 u5 u6 u7 u8 u9) 24)).trans (h3.mono (by rw [World.size_alloc]; exact Nat.le_succ_of_le hb2.size))
      go_wp2
      go_ret
      exact ⟨rfl, hb3⟩
end Go.Proofs.YtldancekpigkaaaDoor.X
namespace Go.Proofs.YtldancekpigkaaaDoor.Pb
open Go.RowKit
theorem broadsheetlaw12_LocatorBack.walk (_P : True) (a0 : ByteArray) (w : World) (hG : X.Glob w) (_w0 : a0.size ≤ 140737488351232) :
    Calls Tryd.prog 6 #[.string a0] w fun e w' => e = .returned (.bool true) ∧ Below w.heap.size w w' := by
  obtain ⟨s, rfl⟩ := U.B_eta a0
  exact X.back_calls s w hG
end Go.Proofs.YtldancekpigkaaaDoor.Pb
namespace Go.Proofs.YtldancekpigkaaaDoor.Pure
theorem LocatorBack : True := trivial
end Go.Proofs.YtldancekpigkaaaDoor.Pure
