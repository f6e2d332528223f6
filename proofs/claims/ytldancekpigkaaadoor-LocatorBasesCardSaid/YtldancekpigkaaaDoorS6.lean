/- Plain law: a path without dots, as the program's own piece by piece. -/
import Derived.Test.YtldancekpigkaaaDoorS1
import Derived.Lib.Join
namespace Go.Proofs.YtldancekpigkaaaDoor.S
open Go.RowKit Go.Lib Go.Proofs.YtldancekpigkaaaDoorW.PrintWords Go.Proofs.YtldancekpigkaaaDoor.X Go.Proofs.YtldancekpigkaaaDoor.Pl Go.Proofs.YtldancekpigkaaaDoor.U
set_option linter.unusedSimpArgs false

/-- The first piece: the first byte, and all up to the next slash. -/
def pc : Bs → Bs
  | [] => []
  | c :: t => c :: t.takeWhile (notIn [47])
/-- What stands behind it. -/
def rs (s : Bs) : Bs := s.tail.dropWhile (notIn [47])
theorem pc_rs : ∀ s : Bs, pc s ++ rs s = s
  | [] => rfl
  | c :: t => by show c :: (t.takeWhile _ ++ t.dropWhile _) = _; rw [List.takeWhile_append_dropWhile]
theorem rs_len {s : Bs} (h : s ≠ []) : (rs s).length < s.length := by
  cases s with
  | nil => exact absurd rfl h
  | cons c t => have := dw_len [47] t; show (t.dropWhile _).length < t.length + 1; omega
theorem trim_len (s : Bs) : (trimPrefix s [47]).length ≤ s.length := by
  unfold trimPrefix; split
  · simp
  · exact Nat.le_refl _
theorem rs_head (s : Bs) : rs s = [] ∨ ∃ t, rs s = 47 :: t := by
  unfold rs
  cases h : s.tail.dropWhile (notIn [47]) with
  | nil => exact .inl rfl
  | cons c t =>
    have := dw_head h
    simp at this
    exact .inr ⟨t, by rw [this]⟩

def dotsL (s : Bs) (out : List Bs) : List Bs :=
  if h : s = [] then out
  else if pc s = [47, 46] then (if rs s = [] then out ++ [[47]] else dotsL (rs s) out)
  else if pc s = [47, 46, 46] then (if rs s = [] then out.dropLast ++ [[47]] else dotsL (rs s) out.dropLast)
  else if pc s = [46] then dotsL (trimPrefix (rs s) [47]) out
  else if pc s = [46, 46] then dotsL (trimPrefix (rs s) [47]) out
  else dotsL (rs s) (out ++ [pc s])
termination_by s.length
decreasing_by
  all_goals (have := rs_len h; have := trim_len (rs s); omega)

theorem join_empty (l : List Bs) : Lib.join l [] = l.flatten := by
  cases l with
  | nil => rfl
  | cons x r => rw [Lib.join_cons]; simp [Lib.joinTail]
theorem join_f (l : List Bs) (h : l.flatten.length ≤ 140737488355328) (h2 : l.length ≤ 140737488355328) : strings_Join.f (l.map B) (B []) = some (B l.flatten) := by
  have e : ((l.map B).map (·.data.toList)) = l := by rw [List.map_map]; exact (List.map_congr_left (fun x _ => B_data x)).trans (List.map_id l)
  unfold strings_Join.f
  rw [e, B_data, join_empty, if_pos ⟨h, by simpa using h2⟩]
  rfl
theorem gpiece_ev (s : Bs) (h : s ≠ []) (hs : s.length < 4611686018427387904) : Ev (fun k => locator_piece.f k (B s)) (B (pc s), B (rs s)) := by
  cases s with
  | nil => exact absurd rfl h
  | cons c t =>
    have hl : t.length < 4611686018427387904 := by simp at hs; omega
    have hw := tw_len [47] t
    simp only [locator_piece.f]
    refine Ev.ite_pos (by rw [B_size]; simp; omega) ?_
    have e1 : (B (c :: t)).extract 1 (B (c :: t)).size = B t := by
      rw [B_extract, B_size, List.take_of_length_le (Nat.le_refl _)]; rfl
    rw [e1]
    refine Ev.bind (gcut_ev [47] t hl) ?_
    have e2 : wrap64 (((B (t.takeWhile (notIn [47]))).size : Int) + 1) = (((t.takeWhile (notIn [47])).length + 1 : Nat) : Int) := by
      rw [B_size, w64 (by omega) (by omega)]; rfl
    simp only [e2]
    refine Ev.ite_pos (by omega) (Ev.ite_pos (by rw [B_size]; simp; omega) ?_)
    have e3 : (B (c :: t)).extract 0 ((((t.takeWhile (notIn [47])).length + 1 : Nat) : Int)).toNat = B (pc (c :: t)) := by
      rw [B_extract, Int.toNat_natCast, List.drop_zero, List.take_succ_cons, tw_take]; rfl
    rw [e3]
    exact Ev.now _
theorem B_ne (a b : Bs) (h : a ≠ b) : ¬ (B a).toList = b := by rw [B_toList]; exact h
theorem map_dropLast (out : List Bs) : (out.map B).take (out.length - 1) = (out.dropLast).map B := by
  rw [List.dropLast_eq_take, List.map_take]
theorem dropLast_flat (out : List Bs) : out.dropLast.flatten.length ≤ out.flatten.length := by
  rw [List.dropLast_eq_take]
  conv => rhs; rw [← List.take_append_drop (out.length - 1) out, List.flatten_append, List.length_append]
  omega
theorem flat_snoc (out : List Bs) (p : Bs) : (out ++ [p]).flatten.length = out.flatten.length + p.length := by
  rw [List.flatten_append, List.length_append]; simp
theorem gdots_l0 : ∀ (n : Nat) (s : Bs) (out : List Bs), s.length ≤ n → s.length + out.length < 1000000 → s.length + out.flatten.length < 1000000 → Ev (fun k => locator_Dots.l0 k (B s) (out.map B)) (B (dotsL s out).flatten) := by
  intro n
  induction n with
  | zero =>
    intro s out h h1 h2
    have : s = [] := List.length_eq_zero_iff.1 (by omega)
    subst this
    refine Ev.step (fun k => (show locator_Dots.l0 (k + 1) (B []) (out.map B) = _ from by rw [locator_Dots.l0])) ?_
    refine Ev.ite_pos (B_toList []) ?_
    rw [show (ByteArray.mk #[]) = B [] from rfl, join_f out (by omega) (by omega), dotsL, dif_pos rfl]
    exact Ev.now _
  | succ n ih =>
    intro s out h h1 h2
    by_cases hs : s = []
    · subst hs
      refine Ev.step (fun k => (show locator_Dots.l0 (k + 1) (B []) (out.map B) = _ from by rw [locator_Dots.l0])) ?_
      refine Ev.ite_pos (B_toList []) ?_
      rw [show (ByteArray.mk #[]) = B [] from rfl, join_f out (by omega) (by omega), dotsL, dif_pos rfl]
      exact Ev.now _
    · have hr := rs_len hs
      have ht := trim_len (rs s)
      have hsum : (pc s).length + (rs s).length = s.length := by rw [← List.length_append, pc_rs]
      have hm : (out.map B).length = out.length := List.length_map _
      have hcap : (out.map B).length < 8796093022208 := by omega
      have htl : strings_TrimPrefix.f (B (rs s)) (ByteArray.mk #[47]) = some (B (trimPrefix (rs s) [47])) := rfl
      rw [dotsL, dif_neg hs]
      refine Ev.step (fun k => (show locator_Dots.l0 (k + 1) (B s) (out.map B) = _ from by rw [locator_Dots.l0])) ?_
      refine Ev.ite_neg (B_ne s [] hs) (Ev.bind (gpiece_ev s hs (by omega)) ?_)
      by_cases c1 : pc s = [47, 46]
      · rw [if_pos c1]
        refine Ev.ite_pos (by rw [B_toList]; exact c1) ?_
        have hp2 : (pc s).length = 2 := by rw [c1]; rfl
        by_cases c2 : rs s = []
        · rw [if_pos c2]
          refine Ev.ite_pos (by rw [B_toList]; exact c2) (Ev.ite_pos hcap ?_)
          have := ih (rs s) (out ++ [[47]]) (by omega) (by simp; omega) (by rw [flat_snoc, List.length_singleton]; omega)
          rw [List.map_append] at this
          rw [c2] at this ⊢
          rwa [dotsL, dif_pos rfl] at this
        · rw [if_neg c2]
          exact Ev.ite_neg (B_ne _ _ c2) (ih (rs s) out (by omega) (by omega) (by omega))
      · rw [if_neg c1]
        refine Ev.ite_neg (B_ne _ _ c1) ?_
        by_cases c3 : pc s = [47, 46, 46]
        · rw [if_pos c3]
          have hp2 : (pc s).length = 3 := by rw [c3]; rfl
          have hd := dropLast_flat out
          have hdl : out.dropLast.length = out.length - 1 := List.length_dropLast
          have em : mx 0 (wrap64 (((out.map B).length : Int) - 1)) = ((out.length - 1 : Nat) : Int) := by
            rw [hm, w64 (by omega) (by omega)]; unfold mx; split <;> omega
          refine Ev.ite_pos (by rw [B_toList]; exact c3) ?_
          rw [em]
          refine Ev.ite_pos (by omega) (Ev.ite_pos (by rw [hm]; omega) ?_)
          rw [Int.toNat_natCast, map_dropLast]
          refine Ev.some_bind ?_
          by_cases c2 : rs s = []
          · rw [if_pos c2]
            refine Ev.ite_pos (by rw [B_toList]; exact c2) (Ev.ite_pos (by rw [List.length_map]; omega) ?_)
            have := ih (rs s) (out.dropLast ++ [[47]]) (by omega) (by simp; omega) (by rw [flat_snoc, List.length_singleton]; omega)
            rw [List.map_append] at this
            rw [c2] at this ⊢
            rwa [dotsL, dif_pos rfl] at this
          · rw [if_neg c2]
            exact Ev.ite_neg (B_ne _ _ c2) (ih (rs s) out.dropLast (by omega) (by omega) (by omega))
        · rw [if_neg c3]
          refine Ev.ite_neg (B_ne _ _ c3) ?_
          by_cases c4 : pc s = [46]
          · rw [if_pos c4]
            refine Ev.ite_pos (by rw [B_toList]; exact c4) ?_
            rw [htl]
            exact Ev.some_bind (ih _ out (by omega) (by omega) (by omega))
          · rw [if_neg c4]
            refine Ev.ite_neg (B_ne _ _ c4) ?_
            by_cases c5 : pc s = [46, 46]
            · rw [if_pos c5]
              refine Ev.ite_pos (by rw [B_toList]; exact c5) ?_
              rw [htl]
              exact Ev.some_bind (ih _ out (by omega) (by omega) (by omega))
            · rw [if_neg c5]
              refine Ev.ite_neg (B_ne _ _ c5) (Ev.ite_pos hcap ?_)
              have hpp : 1 ≤ (pc s).length := by cases s with | nil => exact absurd rfl hs | cons c t => simp [pc]
              have := ih (rs s) (out ++ [pc s]) (by omega) (by simp; omega) (by rw [flat_snoc]; omega)
              rwa [List.map_append] at this
theorem gdots_ev (s : Bs) (hs : s.length < 1000000) : Ev (fun k => locator_Dots.f k (B s)) (B (dotsL s []).flatten) :=
  gdots_l0 s.length s [] (Nat.le_refl _) (by simpa using hs) (by simpa using hs)
end Go.Proofs.YtldancekpigkaaaDoor.S
