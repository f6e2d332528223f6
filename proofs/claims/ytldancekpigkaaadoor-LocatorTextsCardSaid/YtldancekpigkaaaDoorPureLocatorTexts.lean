/- LocatorTexts: the walk's premises hold: what is split is told as it was; both resolved references, both paths without dots are the same. -/
import Derived.Test.YtldancekpigkaaaDoorXTexts
import Derived.Test.YtldancekpigkaaaDoorS11
namespace Go.Proofs.YtldancekpigkaaaDoor.Pt
open Go.RowKit Go.Proofs.YtldancekpigkaaaDoorW.PrintWords
theorem broadsheetlaw12_LocatorTexts.walk (_P : True) (a0 a1 : ByteArray) (w : World) (hG : X.Glob w) (_w0 : a0.size ≤ 140737488351232) (_w1 : a1.size ≤ 140737488351232) :
    Calls Tryd.prog 5 #[.string a0, .string a1] w fun e w' => e = .returned (.bool true) ∧ Below w.heap.size w w' := by
  obtain ⟨s, rfl⟩ := U.B_eta a0
  obtain ⟨t, rfl⟩ := U.B_eta a1
  by_cases hs : s.length ≤ 1000
  · by_cases ht : t.length ≤ 1000
    · have hz : ∀ l : List UInt8, (U.B l).size = l.length := fun _ => rfl
      have hsp : ∀ l : List UInt8, l.length ≤ 1000 → X.broadsheetref12_Split.f (U.B l) = some (S.splitV l) := fun l hl => by
        unfold X.broadsheetref12_Split.f
        rw [if_pos (by rw [hz]; omega)]
        rfl
      have hlen : ∀ l : List UInt8, (S.splitV l).2.2.1.size ≤ l.length := fun l => by
        show ((S.rest2 l).takeWhile _).length ≤ _
        have h1 := S.tw_len [63, 35] (S.rest2 l)
        have h2 := S.sp0_len l
        have h3 := S.sp1_len (S.sp0 l).2.2
        have h4 : S.rest2 l = (S.sp1 (S.sp0 l).2.2).2.2 := rfl
        rw [h4] at h1 ⊢
        omega
      obtain ⟨k1, e1⟩ := Ev.rounds (S.gdots_ev s (by omega))
      obtain ⟨k2, e2⟩ := Ev.rounds (S.rdots_ev s (by omega))
      have l1 := hlen s
      have l2 := hlen t
      obtain ⟨k3, e3⟩ := Ev.rounds (S.gresolve_ev (S.splitV s).1 (S.splitV s).2.1 (S.splitV s).2.2.1 (S.splitV s).2.2.2.1 (S.splitV s).2.2.2.2.1 (S.splitV s).2.2.2.2.2.1 (S.splitV s).2.2.2.2.2.2.1 (S.splitV s).2.2.2.2.2.2.2.1 (S.splitV s).2.2.2.2.2.2.2.2 (S.splitV t).1 (S.splitV t).2.1 (S.splitV t).2.2.1 (S.splitV t).2.2.2.1 (S.splitV t).2.2.2.2.1 (S.splitV t).2.2.2.2.2.1 (S.splitV t).2.2.2.2.2.2.1 (S.splitV t).2.2.2.2.2.2.2.1 (S.splitV t).2.2.2.2.2.2.2.2 (by omega))
      obtain ⟨k4, e4⟩ := Ev.rounds (S.rresolve_ev (S.splitV s).1 (S.splitV s).2.1 (S.splitV s).2.2.1 (S.splitV s).2.2.2.1 (S.splitV s).2.2.2.2.1 (S.splitV s).2.2.2.2.2.1 (S.splitV s).2.2.2.2.2.2.1 (S.splitV s).2.2.2.2.2.2.2.1 (S.splitV s).2.2.2.2.2.2.2.2 (S.splitV t).1 (S.splitV t).2.1 (S.splitV t).2.2.1 (S.splitV t).2.2.2.1 (S.splitV t).2.2.2.2.1 (S.splitV t).2.2.2.2.2.1 (S.splitV t).2.2.2.2.2.2.1 (S.splitV t).2.2.2.2.2.2.2.1 (S.splitV t).2.2.2.2.2.2.2.2 (by omega))
      exact X.texts_calls _ _ _ _ _ _ _ _ _ _ _ _ _ _ _ _ _ _ _ _ _ _ _ _ _ _ _ _ _ _ k1 k2 k3 k4 (fun _ _ => ⟨hsp s hs, hsp t ht, S.gprint_split s (by omega), e1, e2, e3, e4⟩) w hG
    · exact X.texts_calls (U.B s) (U.B t) ⟨#[]⟩ ⟨#[]⟩ ⟨#[]⟩ ⟨#[]⟩ ⟨#[]⟩ false false false false ⟨#[]⟩ ⟨#[]⟩ ⟨#[]⟩ ⟨#[]⟩ ⟨#[]⟩ false false false false ⟨#[]⟩ ⟨#[]⟩ ⟨#[]⟩ ⟨#[]⟩ ⟨#[]⟩ false false false false ⟨#[]⟩ 0 0 0 0 (fun _ h => absurd h ht) w hG
  · exact X.texts_calls (U.B s) (U.B t) ⟨#[]⟩ ⟨#[]⟩ ⟨#[]⟩ ⟨#[]⟩ ⟨#[]⟩ false false false false ⟨#[]⟩ ⟨#[]⟩ ⟨#[]⟩ ⟨#[]⟩ ⟨#[]⟩ false false false false ⟨#[]⟩ ⟨#[]⟩ ⟨#[]⟩ ⟨#[]⟩ ⟨#[]⟩ false false false false ⟨#[]⟩ 0 0 0 0 (fun h _ => absurd h hs) w hG
end Go.Proofs.YtldancekpigkaaaDoor.Pt
namespace Go.Proofs.YtldancekpigkaaaDoor.Pure
theorem LocatorTexts : True := trivial
end Go.Proofs.YtldancekpigkaaaDoor.Pure
