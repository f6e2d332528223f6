/- MediaTexts: Param and Fits of types that are parsed are the document's. -/
import Derived.Test.YtdecjlkfpbgkgaaGreatDoorF3
import Derived.Test.YtdecjlkfpbgkgaaGreatDoorPm7
namespace Go.Proofs.YtdecjlkfpbgkgaaGreatDoor.Pure
open Go.RowKit Go.Lib Go.Proofs.YtdecjlkfpbgkgaaGreatDoorW.PrintWords Go.Proofs.YtdecjlkfpbgkgaaGreatDoor.X Go.Proofs.YtdecjlkfpbgkgaaGreatDoor.Pm Go.Proofs.YtdecjlkfpbgkgaaGreatDoor.F
open Go.Proofs.YtdecjlkfpbgkgaaGreatDoor.U hiding Bs
theorem texts_t (a b n : ByteArray) : Ev (fun k => broadsheetlaw13_MediaTexts.j0 k a b n true) true := by
  refine Ev.step (fun k => (show broadsheetlaw13_MediaTexts.j0 (k + 1) a b n true = _ from by rw [broadsheetlaw13_MediaTexts.j0])) ?_
  rw [awake13]
  exact Ev.ite_pos rfl (Ev.now _)
theorem texts_f (s t : Bs) (n : ByteArray) (hs : s.length ≤ 500) (ht : t.length ≤ 500) : Ev (fun k => broadsheetlaw13_MediaTexts.j0 k (B s) (B t) n false) true := by
  refine Ev.step (fun k => (show broadsheetlaw13_MediaTexts.j0 (k + 1) (B s) (B t) n false = _ from by rw [broadsheetlaw13_MediaTexts.j0])) ?_
  rw [awake13]
  have ls := parse_len s
  have lt := parse_len t
  have vs := parse_lt s (by omega)
  have vt := parse_lt t (by omega)
  refine Ev.ite_neg (by decide) (Ev.bind (rparse_ev s (by omega)) (Ev.bind (rparse_ev t (by omega)) ?_))
  generalize parseV s = p at ls vs
  generalize parseV t = q at lt vt
  refine Ev.some_bind (a := paramW q.2.2.1 n) (Ev.bind (rparam_ev q.1 q.2.1 q.2.2.1 n (by omega)) (Ev.some_bind (Ev.ite_pos rfl (Ev.ite_pos rfl (Ev.ite_pos (by rw [beq_self_eq_true]) ?_)))))
  rw [gfits p.1 p.2.1 p.2.2.1 q.1 q.2.1 q.2.2.1 vs vt]
  refine Ev.some_bind (Ev.bind (rfits_ev p.1 p.2.1 p.2.2.1 q.1 q.2.1 q.2.2.1 (by omega) (by omega) vs vt) ?_)
  rw [beq_self_eq_true]
  exact Ev.now _
theorem MediaTexts : broadsheetlaw13_MediaTexts.Pure := by
  intro a0 a1 a2 _ _ _
  obtain ⟨s, rfl⟩ := B_eta a0
  obtain ⟨t, rfl⟩ := B_eta a1
  refine Ev.rounds (g := fun k => broadsheetlaw13_MediaTexts.f k (B s) (B t) a2) ?_
  unfold broadsheetlaw13_MediaTexts.f
  by_cases h : ((B s).size : Int) > 500
  · exact Ev.ite_pos h (texts_t _ _ _)
  · refine Ev.ite_neg h ?_
    by_cases h2 : ((B t).size : Int) > 500
    · rw [decide_eq_true h2]; exact texts_t _ _ _
    · rw [decide_eq_false h2]
      exact texts_f s t a2 (by rw [B_size] at h; omega) (by rw [B_size] at h2; omega)
end Go.Proofs.YtdecjlkfpbgkgaaGreatDoor.Pure
