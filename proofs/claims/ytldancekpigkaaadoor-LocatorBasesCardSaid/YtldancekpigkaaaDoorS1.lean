/- Plain law: the parts of a text, which text may be a scheme, and which signs may be. -/
import Derived.Test.YtldancekpigkaaaDoorS0
namespace Go.Proofs.YtldancekpigkaaaDoor.S
open Go.RowKit Go.Lib Go.Proofs.YtldancekpigkaaaDoorW.PrintWords Go.Proofs.YtldancekpigkaaaDoor.X Go.Proofs.YtldancekpigkaaaDoor.Pl Go.Proofs.YtldancekpigkaaaDoor.U
set_option linter.unusedSimpArgs false

abbrev UriB := ByteArray × ByteArray × ByteArray × ByteArray × ByteArray × Bool × Bool × Bool × Bool
def sp0 (s : Bs) : Bs × Bool × Bs := if (s.dropWhile (notIn [58, 47, 63, 35])).head? = some 58 then (s.takeWhile (notIn [58, 47, 63, 35]), true, (s.dropWhile (notIn [58, 47, 63, 35])).tail) else ([], false, s)
def sp1 (s : Bs) : Bs × Bool × Bs := if hasPrefix s [47, 47] = true then ((s.drop 2).takeWhile (notIn [47, 63, 35]), true, (s.drop 2).dropWhile (notIn [47, 63, 35])) else ([], false, s)
def sp3 (s : Bs) : Bs × Bool × Bs := if s.head? = some 63 then (s.tail.takeWhile (notIn [35]), true, s.tail.dropWhile (notIn [35])) else ([], false, s)
def uriOf (sch host path query frag : Bs) (p q r t : Bool) : UriB := (B sch, B host, B path, B query, B frag, p, q, r, t)
def rest2 (s : Bs) : Bs := (sp1 (sp0 s).2.2).2.2
def rest3 (s : Bs) : Bs := (rest2 s).dropWhile (notIn [63, 35])
def rest4 (s : Bs) : Bs := (sp3 (rest3 s)).2.2
def splitV (s : Bs) : UriB :=
  uriOf (sp0 s).1 (sp1 (sp0 s).2.2).1 ((rest2 s).takeWhile (notIn [63, 35])) (sp3 (rest3 s)).1 (rest4 s).tail (sp0 s).2.1 (sp1 (sp0 s).2.2).2.1 (sp3 (rest3 s)).2.1 (!(rest4 s).isEmpty)

theorem hp_one (l : Bs) (c : UInt8) : hasPrefix l [c] = (l.head? == some c) := by
  cases l with
  | nil => rfl
  | cons d t =>
    show (c == d && true) = (some d == some c)
    rw [Bool.and_true, Bool.eq_iff_iff, beq_iff_eq, beq_iff_eq]
    exact ⟨fun h => by rw [h], fun h => (Option.some.inj h).symm⟩
theorem tp_one (c : UInt8) (t : Bs) : trimPrefix (c :: t) [c] = t := by
  unfold trimPrefix
  rw [hp_one]
  simp
theorem tp_not {l p : Bs} (h : hasPrefix l p = false) : trimPrefix l p = l := by unfold trimPrefix; rw [h]; rfl
theorem sp0_len (s : Bs) : (sp0 s).2.2.length ≤ s.length := by
  unfold sp0
  split
  · have := dw_len [58, 47, 63, 35] s
    simp only [List.length_tail]
    omega
  · exact Nat.le_refl _
theorem sp1_len (s : Bs) : (sp1 s).2.2.length ≤ s.length := by
  unfold sp1
  split
  · have := dw_len [47, 63, 35] (s.drop 2)
    have h2 : (s.drop 2).length ≤ s.length := by rw [List.length_drop]; omega
    simp only
    omega
  · exact Nat.le_refl _
/-- What stands behind a path: nothing, or a question mark, or a hash. -/
theorem rest3_head (s : Bs) : rest3 s = [] ∨ ∃ t, rest3 s = 63 :: t ∨ rest3 s = 35 :: t := by
  unfold rest3
  cases h : (rest2 s).dropWhile (notIn [63, 35]) with
  | nil => exact .inl rfl
  | cons c t =>
    have := dw_head h
    right
    refine ⟨t, ?_⟩
    simp at this
    rcases this with rfl | rfl
    · exact .inl rfl
    · exact .inr rfl
theorem rest4_head (s : Bs) : rest4 s = [] ∨ ∃ t, rest4 s = 35 :: t := by
  unfold rest4 sp3
  rcases rest3_head s with h | ⟨t, h | h⟩
  · rw [h]
    exact .inl rfl
  · rw [h]
    simp only [List.head?_cons, if_true, List.tail_cons]
    cases h2 : t.dropWhile (notIn [35]) with
    | nil => exact .inl rfl
    | cons c u =>
      have := dw_head h2
      simp at this
      subst this
      exact .inr ⟨u, rfl⟩
  · rw [h]
    rw [if_neg (show ¬ (35 :: t : Bs).head? = some 63 by simp)]
    exact .inr ⟨t, rfl⟩
theorem frag_eq {l : Bs} (h : l = [] ∨ ∃ t, l = 35 :: t) : trimPrefix l [35] = l.tail ∧ hasPrefix l [35] = !l.isEmpty := by
  rcases h with rfl | ⟨t, rfl⟩
  · exact ⟨rfl, rfl⟩
  · exact ⟨tp_one 35 t, by rw [hp_one]; simp⟩

theorem gj1 (s2 sch host : Bs) (p q : Bool) (hs : s2.length < 4611686018427387904) (s : Bs) (h2 : rest2 s = s2) :
    Ev (fun k => locator_split.j1 k (B s2) (B sch) (B host) (⟨#[]⟩ : ByteArray) (⟨#[]⟩ : ByteArray) (⟨#[]⟩ : ByteArray) p q false false)
      (uriOf sch host (s2.takeWhile (notIn [63, 35])) (sp3 (rest3 s)).1 (rest4 s).tail p q (sp3 (rest3 s)).2.1 (!(rest4 s).isEmpty)) := by
  have e0 : (⟨#[63, 35]⟩ : ByteArray) = B [63, 35] := rfl
  have e1 : (⟨#[35]⟩ : ByteArray) = B [35] := rfl
  have ee : (⟨#[]⟩ : ByteArray) = B [] := rfl
  refine Ev.step (fun k => (show locator_split.j1 (k + 1) (B s2) (B sch) (B host) _ _ _ p q false false = _ from by rw [locator_split.j1])) ?_
  rw [e0, e1, ee]
  refine Ev.bind (gcut_ev [63, 35] s2 hs) ?_
  have hr3 : s2.dropWhile (notIn [63, 35]) = rest3 s := by unfold rest3; rw [h2]
  simp only [hr3]
  have hf := frag_eq (rest4_head s)
  have hl3 : (rest3 s).length ≤ s2.length := by rw [← hr3]; exact dw_len _ _
  have hc : ∀ l p : Bs, strings_CutPrefix.f (B l) (B p) = some (B (trimPrefix l p), hasPrefix l p) := fun l p => rfl
  have e2 : (⟨#[63]⟩ : ByteArray) = B [63] := rfl
  simp only [e2, hc, Option.bind_some]
  by_cases h63 : (rest3 s).head? = some 63
  · have hp : hasPrefix (rest3 s) [63] = true := by rw [hp_one, h63]; rfl
    have ht : trimPrefix (rest3 s) [63] = (rest3 s).tail := by
      cases hr : rest3 s with
      | nil => rw [hr] at h63; cases h63
      | cons c t => rw [hr] at h63; cases h63; exact tp_one 63 t
    simp only [if_pos hp, ht]
    refine Ev.bind (gcut_ev [35] (rest3 s).tail (by rw [List.length_tail]; omega)) ?_
    have hr4 : (rest3 s).tail.dropWhile (notIn [35]) = rest4 s := by unfold rest4 sp3; rw [if_pos h63]
    simp only [hr4, hc, Option.bind_some, hf.1, hf.2]
    unfold sp3
    rw [if_pos h63]
    exact Ev.now _
  · have hp : hasPrefix (rest3 s) [63] = false := by rw [hp_one]; exact beq_eq_false_iff_ne.2 h63
    have hr4 : rest3 s = rest4 s := by unfold rest4 sp3; rw [if_neg h63]
    simp only [hp, Bool.false_eq_true, if_false]
    rw [hr4]
    simp only [hf.1, hf.2]
    have h63' : ¬ (rest4 s).head? = some 63 := by rw [← hr4]; exact h63
    unfold sp3
    rw [if_neg h63']
    exact Ev.now _
theorem gj0 (s1 sch : Bs) (p : Bool) (hs : s1.length < 4611686018427387904) (s : Bs) (h1 : (sp0 s).2.2 = s1) :
    Ev (fun k => locator_split.j0 k (B s1) (B sch) (⟨#[]⟩ : ByteArray) (⟨#[]⟩ : ByteArray) (⟨#[]⟩ : ByteArray) (⟨#[]⟩ : ByteArray) p false false false)
      (uriOf sch (sp1 s1).1 ((rest2 s).takeWhile (notIn [63, 35])) (sp3 (rest3 s)).1 (rest4 s).tail p (sp1 s1).2.1 (sp3 (rest3 s)).2.1 (!(rest4 s).isEmpty)) := by
  have e0 : (⟨#[47, 47]⟩ : ByteArray) = B [47, 47] := rfl
  have e1 : (⟨#[47, 63, 35]⟩ : ByteArray) = B [47, 63, 35] := rfl
  have ee : (⟨#[]⟩ : ByteArray) = B [] := rfl
  have hc : ∀ l p : Bs, strings_CutPrefix.f (B l) (B p) = some (B (trimPrefix l p), hasPrefix l p) := fun l p => rfl
  refine Ev.step (fun k => (show locator_split.j0 (k + 1) (B s1) (B sch) _ _ _ _ p false false false = _ from by rw [locator_split.j0])) ?_
  have hl := sp1_len s1
  have hr2 : rest2 s = (sp1 s1).2.2 := by unfold rest2; rw [h1]
  simp only [e0, e1, hc, Option.bind_some]
  by_cases h : hasPrefix s1 [47, 47] = true
  · have ht : trimPrefix s1 [47, 47] = s1.drop 2 := by unfold trimPrefix; rw [h]; rfl
    simp only [if_pos h, ht]
    refine Ev.bind (gcut_ev [47, 63, 35] (s1.drop 2) (by rw [List.length_drop]; omega)) ?_
    have q1 : (s1.drop 2).dropWhile (notIn [47, 63, 35]) = rest2 s := by rw [hr2]; unfold sp1; rw [if_pos h]
    have q2 : (sp1 s1).1 = (s1.drop 2).takeWhile (notIn [47, 63, 35]) ∧ (sp1 s1).2.1 = true := by unfold sp1; rw [if_pos h]; exact ⟨rfl, rfl⟩
    simp only [q1]
    rw [q2.1, q2.2]
    exact gj1 (rest2 s) sch _ p true (by rw [hr2]; omega) s rfl
  · have h' : hasPrefix s1 [47, 47] = false := by simpa using h
    simp only [h', Bool.false_eq_true, if_false]
    have q1 : s1 = rest2 s := by rw [hr2]; unfold sp1; rw [if_neg h]
    have q2 : (sp1 s1).1 = [] ∧ (sp1 s1).2.1 = false := by unfold sp1; rw [if_neg h]; exact ⟨rfl, rfl⟩
    rw [q2.1, q2.2, ← q1]
    exact gj1 s1 sch [] p false hs s q1.symm
theorem gsplit_ev (s : Bs) (hs : s.length < 4611686018427387904) : Ev (fun k => locator_split.f k (B s)) (splitV s) := by
  unfold locator_split.f
  have e0 : (⟨#[58, 47, 63, 35]⟩ : ByteArray) = B [58, 47, 63, 35] := rfl
  have e1 : (⟨#[58]⟩ : ByteArray) = B [58] := rfl
  have hc : ∀ l p : Bs, strings_HasPrefix.f (B l) (B p) = some (hasPrefix l p) := fun l p => rfl
  rw [e0, e1]
  refine Ev.bind (gcut_ev [58, 47, 63, 35] s hs) ?_
  simp only [hc, Option.bind_some]
  have hl := sp0_len s
  by_cases h : (s.dropWhile (notIn [58, 47, 63, 35])).head? = some 58
  · have hp : hasPrefix (s.dropWhile (notIn [58, 47, 63, 35])) [58] = true := by rw [hp_one, h]; rfl
    have q1 : (sp0 s).1 = s.takeWhile (notIn [58, 47, 63, 35]) ∧ (sp0 s).2.1 = true ∧ (sp0 s).2.2 = (s.dropWhile (notIn [58, 47, 63, 35])).tail := by unfold sp0; rw [if_pos h]; exact ⟨rfl, rfl, rfl⟩
    have hsz : (1 : Int) ≤ ((B (s.dropWhile (notIn [58, 47, 63, 35]))).size : Int) := by
      rw [B_size]
      cases hr : s.dropWhile (notIn [58, 47, 63, 35]) with
      | nil => rw [hr] at h; cases h
      | cons c t => simp only [List.length_cons]; omega
    simp only [if_pos hp, if_pos hsz, extract_tail, List.drop_one]
    unfold splitV
    rw [q1.1, q1.2.1, q1.2.2]
    exact gj0 _ _ true (by rw [← q1.2.2]; omega) s q1.2.2
  · have hp : hasPrefix (s.dropWhile (notIn [58, 47, 63, 35])) [58] = false := by rw [hp_one]; exact beq_eq_false_iff_ne.2 h
    have q1 : (sp0 s).1 = [] ∧ (sp0 s).2.1 = false ∧ (sp0 s).2.2 = s := by unfold sp0; rw [if_neg h]; exact ⟨rfl, rfl, rfl⟩
    simp only [hp, Bool.false_eq_true, if_false]
    unfold splitV
    rw [q1.1, q1.2.1, q1.2.2]
    exact gj0 s [] false hs s q1.2.2
end Go.Proofs.YtldancekpigkaaaDoor.S
