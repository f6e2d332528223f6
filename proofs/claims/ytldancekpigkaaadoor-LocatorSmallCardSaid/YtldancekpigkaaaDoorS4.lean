/- Plain law: Parse of the program and of the reference answer the same. -/
import Derived.Test.YtldancekpigkaaaDoorS11
import Derived.Test.YtldancekpigkaaaDoorS3
import Derived.Test.YtldancekpigkaaaDoorU6
import Derived.Test.YtldancekpigkaaaDoorXPars
namespace Go.Proofs.YtldancekpigkaaaDoor.S
open Go.RowKit Go.Lib Go.Proofs.YtldancekpigkaaaDoorW.PrintWords Go.Proofs.YtldancekpigkaaaDoor.X Go.Proofs.YtldancekpigkaaaDoor.Pl Go.Proofs.YtldancekpigkaaaDoor.U
set_option linter.unusedSimpArgs false

def parseV (s : Bs) : UriE :=
  endP (splitV s) (checkL s.length s) (schemeL (sp0 s).1) (signsL [91, 93] (sp1 (sp0 s).2.2).1) (signsL [47] ((rest2 s).takeWhile (notIn [63, 35]))) (signsL [47, 63] (sp3 (rest3 s)).1) (signsL [47, 63] (rest4 s).tail)
theorem gparse_ev (s : Bs) (hs : s.length < 4000000) : Ev (fun k => locator_Parse.f k (B s)) (parseV s) := by
  unfold locator_Parse.f
  have l1 := sp0_fst s
  have l2 := sp1_fst (sp0 s).2.2
  have l3 := sp0_len s
  have l4 := tw_len [63, 35] (rest2 s)
  have l5 := rest2_len s
  have l6 := (sp3_fst (rest3 s)).1
  have l7 := rest3_len s
  have l8 := rest4_len s
  have l9 : (rest4 s).tail.length ≤ (rest4 s).length := by rw [List.length_tail]; omega
  refine Ev.bind (gsplit_ev s (by omega)) ?_
  have e1 : (⟨#[91, 93]⟩ : ByteArray) = B [91, 93] := rfl
  have e2 : (⟨#[47]⟩ : ByteArray) = B [47] := rfl
  have e3 : (⟨#[47, 63]⟩ : ByteArray) = B [47, 63] := rfl
  simp only [gcheck s (by omega), Option.bind_some, splitV, uriOf, gscheme (sp0 s).1 (by omega), e1, e2, e3]
  refine Ev.bind (gsigns_ev [91, 93] _ (by omega) (by decide)) ?_
  refine Ev.bind (gsigns_ev [47] _ (by omega) (by decide)) ?_
  refine Ev.bind (gsigns_ev [47, 63] _ (by omega) (by decide)) ?_
  refine Ev.bind (gsigns_ev [47, 63] _ (by omega) (by decide)) ?_
  exact Ev.now _
theorem rparse_ev (s : Bs) (hs : s.length < 4000000) : Ev (fun k => broadsheetref12_Parse.f k (B s)) (parseV s) := by
  unfold broadsheetref12_Parse.f
  have l1 := sp0_fst s
  have l2 := sp1_fst (sp0 s).2.2
  have l3 := sp0_len s
  have l4 := tw_len [63, 35] (rest2 s)
  have l5 := rest2_len s
  have l6 := (sp3_fst (rest3 s)).1
  have l7 := rest3_len s
  have l8 := rest4_len s
  have l9 : (rest4 s).tail.length ≤ (rest4 s).length := by rw [List.length_tail]; omega
  have hsp : broadsheetref12_Split.f (B s) = some (splitV s) := by
    unfold broadsheetref12_Split.f
    rw [if_pos (by rw [B_size]; omega)]
    rfl
  rw [hsp]
  have e1 : (⟨#[91, 93]⟩ : ByteArray) = B [91, 93] := rfl
  have e2 : (⟨#[47]⟩ : ByteArray) = B [47] := rfl
  have e3 : (⟨#[47, 63]⟩ : ByteArray) = B [47, 63] := rfl
  simp only [Option.bind_some, splitV, uriOf, e1, e2, e3]
  refine Ev.bind (rcheck_ev s) ?_
  refine Ev.bind (rscheme_ev (sp0 s).1 (by omega)) ?_
  refine Ev.bind (rsigns_ev [91, 93] _ (by omega) (by decide)) ?_
  refine Ev.bind (rsigns_ev [47] _ (by omega) (by decide)) ?_
  refine Ev.bind (rsigns_ev [47, 63] _ (by omega) (by decide)) ?_
  refine Ev.bind (rsigns_ev [47, 63] _ (by omega) (by decide)) ?_
  exact Ev.now _
end Go.Proofs.YtldancekpigkaaaDoor.S
