/- MediaBack: what is parsed is told, and parsed as it was, and told again so. -/
import Derived.Test.YtdecjlkfpbgkgaaGreatDoorF5
import Derived.Test.YtdecjlkfpbgkgaaGreatDoorF6
import Derived.Test.YtdecjlkfpbgkgaaGreatDoorPm12
namespace Go.Proofs.YtdecjlkfpbgkgaaGreatDoor.Pure
open Go.RowKit Go.Lib Go.Proofs.YtdecjlkfpbgkgaaGreatDoorW.PrintWords Go.Proofs.YtdecjlkfpbgkgaaGreatDoor.X Go.Proofs.YtdecjlkfpbgkgaaGreatDoor.Pm Go.Proofs.YtdecjlkfpbgkgaaGreatDoor.F
open Go.Proofs.YtdecjlkfpbgkgaaGreatDoor.U hiding Bs
theorem same_ev (t u : ByteArray) (l : List S38) (hl : l.length ≤ 4611686018427387904) : Ev (fun k => broadsheetref13_Same.f k t u l t u l) true := by
  unfold broadsheetref13_Same.f
  exact Ev.ite_pos rfl (Ev.ite_pos rfl (Ev.bind (same38_ev _ hl) (Ev.now _)))
theorem MediaBack : broadsheetlaw13_MediaBack.Pure := by
  intro a0 _
  obtain ⟨s, rfl⟩ := B_eta a0
  refine Ev.rounds (g := fun k => broadsheetlaw13_MediaBack.f k (B s)) ?_
  unfold broadsheetlaw13_MediaBack.f
  rw [awake13]
  refine Ev.some_bind (Ev.ite_pos rfl ?_)
  by_cases h : ((B s).size : Int) > 1000
  · exact Ev.ite_pos h (Ev.now _)
  · have hs : s.length ≤ 1000 := by rw [B_size] at h; omega
    refine Ev.ite_neg h ?_
    rw [gparse s (by omega)]
    have hl := parse_len s
    rcases parse_good s with he | ⟨h0, hg, ht⟩
    · rw [he]
      refine Ev.some_bind (Ev.ite_neg (by decide) (Ev.bind (same_ev _ _ [] (by decide)) (Ev.now _)))
    · generalize parseV s = r at h0 hg ht hl
      obtain ⟨t, u, l, e⟩ := r
      simp only at h0 ht hl
      subst h0
      refine Ev.some_bind (Ev.ite_pos rfl ?_)
      rw [gprint t u l (by omega) (by omega)]
      have h2 := partsG_len l
      have h3 : (headT t u).length = t.size + 1 + u.size := by unfold headT; simp only [List.length_append, List.length_cons, List.length_nil]; rfl
      have hp : media_Parse.f (M (headT t u ++ partsG l)) = some (t, u, l, 0) := by
        have := gparse (headT t u ++ partsG l) (by rw [List.length_append]; omega)
        rw [parse_back t u l hg] at this
        exact this
      refine Ev.some_bind ?_
      rw [hp]
      refine Ev.some_bind (Ev.ite_pos rfl (Ev.bind (same_ev t u l (by omega)) (Ev.ite_pos rfl ?_)))
      rw [gprint t u l (by omega) (by omega)]
      refine Ev.some_bind ?_
      rw [beq_self_eq_true]
      exact Ev.now _
end Go.Proofs.YtdecjlkfpbgkgaaGreatDoor.Pure
