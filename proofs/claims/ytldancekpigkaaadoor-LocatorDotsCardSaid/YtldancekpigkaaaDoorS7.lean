/- Plain law: dots that are gone are gone. -/
import Derived.Test.YtldancekpigkaaaDoorS6
namespace Go.Proofs.YtldancekpigkaaaDoor.S
open Go.RowKit Go.Lib Go.Proofs.YtldancekpigkaaaDoorW.PrintWords Go.Proofs.YtldancekpigkaaaDoor.X Go.Proofs.YtldancekpigkaaaDoor.Pl Go.Proofs.YtldancekpigkaaaDoor.U
set_option linter.unusedSimpArgs false

/-- A piece that stays. -/
structure OkPc (p : Bs) : Prop where
  d1 : p ≠ [47, 46]
  d2 : p ≠ [47, 46, 46]
  d3 : p ≠ [46]
  d4 : p ≠ [46, 46]
  shape : ∃ c t, p = c :: t ∧ ∀ x ∈ t, notIn [47] x = true
structure Good (r : List Bs) : Prop where
  ok : ∀ p ∈ r, OkPc p
  tl : ∀ p ∈ r.tail, p.head? = some 47
theorem Good.nil : Good [] := ⟨by simp, by simp⟩
theorem Good.snoc {r : List Bs} {p : Bs} (h : Good r) (hp : OkPc p) (hh : r ≠ [] → p.head? = some 47) : Good (r ++ [p]) := by
  refine ⟨?_, ?_⟩
  · intro q hq
    rcases List.mem_append.1 hq with h1 | h1
    · exact h.ok q h1
    · rw [List.mem_singleton.1 h1]; exact hp
  · intro q hq
    cases r with
    | nil => simp at hq
    | cons a r' =>
      rw [List.cons_append, List.tail_cons] at hq
      rcases List.mem_append.1 hq with h1 | h1
      · exact h.tl q h1
      · rw [List.mem_singleton.1 h1]; exact hh (by simp)
theorem Good.drop {r : List Bs} (h : Good r) : Good r.dropLast := by
  refine ⟨fun p hp => h.ok p (List.dropLast_subset r hp), fun p hp => h.tl p ?_⟩
  cases r with
  | nil => simp at hp
  | cons a r' =>
    cases r' with
    | nil => simp at hp
    | cons b r'' =>
      rw [List.dropLast_cons_cons, List.tail_cons] at hp
      exact List.dropLast_subset _ hp
theorem ok_slash : OkPc [47] := ⟨by decide, by decide, by decide, by decide, 47, [], rfl, by simp⟩
theorem pc_tail (t : Bs) : ∀ x ∈ t.takeWhile (notIn [47]), notIn [47] x = true := by
  intro x hx
  induction t with
  | nil => simp at hx
  | cons a t ih =>
    rw [List.takeWhile_cons] at hx
    split at hx
    · rename_i ha
      rcases List.mem_cons.1 hx with h | h
      · rw [h]; exact ha
      · exact ih h
    · simp at hx
theorem pc_head {s : Bs} : (pc s).head? = s.head? := by cases s <;> rfl
theorem dots_good : ∀ (n : Nat) (s : Bs) (out : List Bs), s.length ≤ n → Good out → (out ≠ [] → s = [] ∨ s.head? = some 47) → Good (dotsL s out) ∧ (dotsL s out).flatten.length ≤ out.flatten.length + s.length := by
  intro n
  induction n with
  | zero =>
    intro s out h hg _
    have : s = [] := List.length_eq_zero_iff.1 (by omega)
    subst this
    rw [dotsL, dif_pos rfl]
    exact ⟨hg, by omega⟩
  | succ n ih =>
    intro s out h hg hh
    by_cases hs : s = []
    · subst hs
      rw [dotsL, dif_pos rfl]
      exact ⟨hg, by omega⟩
    · have hr := rs_len hs
      have ht := trim_len (rs s)
      have hsum : (pc s).length + (rs s).length = s.length := by rw [← List.length_append, pc_rs]
      have hrs : ∀ o : List Bs, o ≠ [] → rs s = [] ∨ (rs s).head? = some 47 := by
        intro o _
        rcases rs_head s with h1 | ⟨t, h1⟩
        · exact .inl h1
        · rw [h1]; exact .inr rfl
      rw [dotsL, dif_neg hs]
      by_cases c1 : pc s = [47, 46]
      · rw [if_pos c1]
        have hp2 : (pc s).length = 2 := by rw [c1]; rfl
        by_cases c2 : rs s = []
        · rw [if_pos c2]
          exact ⟨hg.snoc ok_slash (fun _ => rfl), by rw [flat_snoc, List.length_singleton]; omega⟩
        · rw [if_neg c2]
          obtain ⟨g1, g2⟩ := ih (rs s) out (by omega) hg (hrs out)
          exact ⟨g1, by omega⟩
      · rw [if_neg c1]
        by_cases c3 : pc s = [47, 46, 46]
        · rw [if_pos c3]
          have hp2 : (pc s).length = 3 := by rw [c3]; rfl
          have hd := dropLast_flat out
          by_cases c2 : rs s = []
          · rw [if_pos c2]
            exact ⟨hg.drop.snoc ok_slash (fun _ => rfl), by rw [flat_snoc, List.length_singleton]; omega⟩
          · rw [if_neg c2]
            obtain ⟨g1, g2⟩ := ih (rs s) out.dropLast (by omega) hg.drop (hrs _)
            exact ⟨g1, by omega⟩
        · rw [if_neg c3]
          by_cases c4 : pc s = [46]
          · rw [if_pos c4]
            have ho : out = [] := by
              apply Classical.byContradiction
              intro hn
              rcases hh hn with h1 | h1
              · exact hs h1
              · rw [← pc_head, c4] at h1; exact absurd h1 (by decide)
            obtain ⟨g1, g2⟩ := ih (trimPrefix (rs s) [47]) out (by omega) hg (fun hn => absurd ho hn)
            exact ⟨g1, by omega⟩
          · rw [if_neg c4]
            by_cases c5 : pc s = [46, 46]
            · rw [if_pos c5]
              have ho : out = [] := by
                apply Classical.byContradiction
                intro hn
                rcases hh hn with h1 | h1
                · exact hs h1
                · rw [← pc_head, c5] at h1; exact absurd h1 (by decide)
              obtain ⟨g1, g2⟩ := ih (trimPrefix (rs s) [47]) out (by omega) hg (fun hn => absurd ho hn)
              exact ⟨g1, by omega⟩
            · rw [if_neg c5]
              have hok : OkPc (pc s) := by
                refine ⟨c1, c3, c4, c5, ?_⟩
                cases s with
                | nil => exact absurd rfl hs
                | cons c t => exact ⟨c, _, rfl, pc_tail t⟩
              have hn : out ≠ [] → (pc s).head? = some 47 := by
                intro hn
                rw [pc_head]
                rcases hh hn with h1 | h1
                · exact absurd h1 hs
                · exact h1
              obtain ⟨g1, g2⟩ := ih (rs s) (out ++ [pc s]) (by omega) (hg.snoc hok hn) (hrs _)
              rw [flat_snoc] at g2
              exact ⟨g1, by omega⟩
theorem flat_head {r : List Bs} (h : ∀ p ∈ r, p.head? = some 47) : r.flatten = [] ∨ ∃ t, r.flatten = 47 :: t := by
  cases r with
  | nil => exact .inl rfl
  | cons p r' =>
    have := h p (by simp)
    cases p with
    | nil => simp at this
    | cons c t =>
      have hc : c = 47 := by simpa using this
      subst hc
      exact .inr ⟨t ++ r'.flatten, rfl⟩
theorem tw_all {t l : Bs} (h : ∀ x ∈ t, notIn [47] x = true) (hl : l = [] ∨ ∃ u, l = 47 :: u) : (t ++ l).takeWhile (notIn [47]) = t ∧ (t ++ l).dropWhile (notIn [47]) = l := by
  rw [List.takeWhile_append_of_pos h, List.dropWhile_append_of_pos h]
  rcases hl with rfl | ⟨u, rfl⟩
  · simp
  · have h47 : notIn [47] 47 = false := by decide
    rw [List.takeWhile_cons, List.dropWhile_cons, h47]
    simp
theorem good_cons {p : Bs} {r : List Bs} (h : Good (p :: r)) : OkPc p ∧ (r.flatten = [] ∨ ∃ t, r.flatten = 47 :: t) ∧ Good r :=
  ⟨h.ok p (by simp), flat_head h.tl, fun q hq => h.ok q (by simp [hq]), fun q hq => h.tl q (List.mem_of_mem_tail hq)⟩
theorem ok_pc {p l : Bs} (h : OkPc p) (hl : l = [] ∨ ∃ u, l = 47 :: u) : pc (p ++ l) = p ∧ rs (p ++ l) = l := by
  obtain ⟨c, t, rfl, ht⟩ := h.shape
  obtain ⟨h1, h2⟩ := tw_all ht hl
  exact ⟨by show c :: (t ++ l).takeWhile _ = _; rw [h1], h2⟩
theorem dots_redo : ∀ (r out : List Bs), Good r → dotsL r.flatten out = out ++ r
  | [], out, _ => by rw [List.flatten_nil, dotsL, dif_pos rfl, List.append_nil]
  | p :: r, out, h => by
    obtain ⟨hp, hl, hr⟩ := good_cons h
    obtain ⟨h1, h2⟩ := ok_pc hp hl
    have hne : p ++ r.flatten ≠ [] := by
      obtain ⟨c, t, rfl, _⟩ := hp.shape
      simp
    rw [List.flatten_cons, dotsL, dif_neg hne, h1, h2, if_neg hp.d1, if_neg hp.d2, if_neg hp.d3, if_neg hp.d4, dots_redo r _ hr]
    simp
/-- No piece of dots stands behind a slash. -/
def DotFree (a : Bs) : Prop := ∀ i, pc (a.drop i) ≠ [47, 46] ∧ pc (a.drop i) ≠ [47, 46, 46]
theorem dots_clean : ∀ r : List Bs, Good r → DotFree r.flatten
  | [], _ => by intro i; simp [pc]
  | p :: r, h => by
    obtain ⟨hp, hl, hr⟩ := good_cons h
    obtain ⟨h1, h2⟩ := ok_pc hp hl
    intro i
    rw [List.flatten_cons]
    by_cases h0 : i = 0
    · subst h0
      rw [List.drop_zero, h1]
      exact ⟨hp.d1, hp.d2⟩
    · by_cases h3 : i < p.length
      · obtain ⟨c, t, rfl, ht⟩ := hp.shape
        obtain ⟨j, rfl⟩ : ∃ j, i = j + 1 := ⟨i - 1, by omega⟩
        have hj : j < t.length := by simpa using h3
        have hd : ((c :: t) ++ r.flatten).drop (j + 1) = t[j] :: (t.drop (j + 1) ++ r.flatten) := by
          rw [List.cons_append, List.drop_succ_cons, List.drop_append_of_le_length (by omega), List.drop_eq_getElem_cons hj]
          rfl
        have hx := ht t[j] (List.getElem_mem hj)
        have hne : t[j] ≠ 47 := by
          intro e
          rw [e] at hx
          exact absurd hx (by decide)
        rw [hd]
        refine ⟨?_, ?_⟩ <;> (intro e; simp only [pc, List.cons.injEq] at e; exact hne e.1)
      · rw [List.drop_append, List.drop_eq_nil_of_le (by omega), List.nil_append]
        exact dots_clean r hr _
/-- What the law asks of the answer. -/
theorem dots_law (s : Bs) : DotFree (dotsL s []).flatten ∧ (dotsL (dotsL s []).flatten []) = dotsL s [] ∧ (dotsL s []).flatten.length ≤ s.length := by
  obtain ⟨h1, h2⟩ := dots_good s.length s [] (Nat.le_refl _) Good.nil (fun h => absurd rfl h)
  exact ⟨dots_clean _ h1, by rw [dots_redo _ _ h1]; rfl, by simpa using h2⟩
end Go.Proofs.YtldancekpigkaaaDoor.S
