/- Plain law for the prefixes: a text cut at its first colon. -/
import Derived.Test.YtidjihhklmfaiaaDoorU1
namespace Go.Proofs.YtidjihhklmfaiaaDoor.V
open Go.RowKit Go.Lib Go.Proofs.YtidjihhklmfaiaaDoor.U

/-- The text ahead of the first colon, and all from it on. -/
def preC (l : Bs) : Bs := l.takeWhile (· != 58)
def postC (l : Bs) : Bs := l.dropWhile (· != 58)
theorem pre_post (l : Bs) : preC l ++ postC l = l := List.takeWhile_append_dropWhile
theorem preC_all (l : Bs) : ∀ c ∈ preC l, c ≠ 58 := by
  induction l with
  | nil => intro c hc; simp [preC] at hc
  | cons d t ih =>
    intro c hc
    by_cases hd : d = 58
    · subst hd; simp [preC] at hc
    · have e : preC (d :: t) = d :: preC t := by simp [preC, hd]
      rw [e] at hc
      rcases List.mem_cons.1 hc with rfl | hc
      · exact hd
      · exact ih c hc
theorem preC_cons_hit (t : Bs) : preC (58 :: t) = [] ∧ postC (58 :: t) = 58 :: t := by simp [preC, postC]
theorem preC_cons_miss {c : UInt8} (t : Bs) (h : c ≠ 58) : preC (c :: t) = c :: preC t ∧ postC (c :: t) = postC t := by
  simp [preC, postC, h]
theorem postC_head : ∀ (l : Bs), postC l ≠ [] → ∃ t, postC l = 58 :: t := by
  intro l
  induction l with
  | nil => intro h; exact absurd rfl h
  | cons c t ih =>
    intro h
    by_cases hc : c = 58
    · subst hc; exact ⟨t, (preC_cons_hit t).2⟩
    · rw [(preC_cons_miss t hc).2] at h ⊢
      exact ih h
theorem postC_nil : ∀ (l : Bs), postC l = [] ↔ ∀ c ∈ l, c ≠ 58 := by
  intro l
  induction l with
  | nil => simp [postC]
  | cons c t ih =>
    by_cases hc : c = 58
    · subst hc; rw [(preC_cons_hit t).2]; simp
    · rw [(preC_cons_miss t hc).2, ih]; simp [hc]
theorem pre_at (a b : Bs) (ha : ∀ c ∈ a, c ≠ 58) : preC (a ++ 58 :: b) = a ∧ postC (a ++ 58 :: b) = 58 :: b := by
  induction a with
  | nil => exact preC_cons_hit b
  | cons c t ih =>
    have hc := ha c (List.mem_cons_self ..)
    have := ih (fun d hd => ha d (List.mem_cons_of_mem _ hd))
    rw [List.cons_append, (preC_cons_miss _ hc).1, (preC_cons_miss _ hc).2, this.1, this.2]
    exact ⟨rfl, rfl⟩
theorem ib_pos : ∀ (l : Bs), (postC l = [] ∧ indexByte l 58 = -1) ∨ (postC l ≠ [] ∧ indexByte l 58 = ((preC l).length : Int)) := by
  intro l
  induction l with
  | nil => exact .inl ⟨rfl, rfl⟩
  | cons c t ih =>
    by_cases hc : c = 58
    · subst hc
      right
      rw [(preC_cons_hit t).1, (preC_cons_hit t).2]
      exact ⟨by simp, by simp [indexByte]⟩
    · rw [(preC_cons_miss t hc).1, (preC_cons_miss t hc).2]
      have hb : (c == 58) = false := by simp [hc]
      rcases ih with ⟨h1, h2⟩ | ⟨h1, h2⟩
      · left
        refine ⟨h1, ?_⟩
        unfold indexByte
        rw [hb, h2]
        rfl
      · right
        refine ⟨h1, ?_⟩
        unfold indexByte
        rw [hb, h2]
        have : (((preC t).length : Int) == -1) = false := by rw [beq_eq_false_iff_ne]; omega
        simp only [this, Bool.false_eq_true, if_false, List.length_cons]
        omega
theorem cut58 (l : Bs) : Lib.cut l [58] = if postC l = [] then (l, [], false) else (preC l, (postC l).tail, true) := by
  unfold Lib.cut
  rw [index_one]
  rcases ib_pos l with ⟨h1, h2⟩ | ⟨h1, h2⟩
  · rw [h2, if_neg (by decide), if_pos h1]
  · rw [h2, if_pos (by omega), if_neg h1, Int.toNat_natCast]
    have key : ∀ a b : Bs, a ++ b = l → l.take a.length = a ∧ l.drop (a.length + 1) = b.tail := by
      rintro a b rfl
      refine ⟨List.take_left' rfl, ?_⟩
      rw [← List.drop_drop, List.drop_left' rfl, List.drop_one]
    obtain ⟨k1, k2⟩ := key _ _ (pre_post l)
    rw [k1, show [(58 : UInt8)].length = 1 from rfl, k2]
end Go.Proofs.YtidjihhklmfaiaaDoor.V
