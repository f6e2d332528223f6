/- Plain law: what is declared is resolved, the last one of a prefix; attributes that do not declare stay in their order (PrefixBinds). -/
import Derived.Test.YtidjihhklmfaiaaDoorV7b
import Derived.Test.YtidjihhklmfaiaaDoorPx8
namespace Go.Proofs.YtidjihhklmfaiaaDoor.Pure
set_option linter.unusedSimpArgs false
open Go.RowKit Go.Lib Go.Proofs.YtidjihhklmfaiaaDoorW.PrintWords Go.Proofs.YtidjihhklmfaiaaDoor.X Go.Proofs.YtidjihhklmfaiaaDoor.Px Go.Proofs.YtidjihhklmfaiaaDoor.U Go.Proofs.YtidjihhklmfaiaaDoor.V

def restOf (x : S30) : Bool := !(decide ((splitV x.f0.toList).1.toList = [] ∧ (splitV x.f0.toList).2.1.toList = xmlns) || decide ((splitV x.f0.toList).1.toList = xmlns))
def goodS (x : S30) : Prop := mayV x.f0.toList x.f1.toList = true ∧ (x.f0.toList = [] ∨ plainB x.f0.toList = true) ∧ x.f0.size ≤ 300
theorem nil_toList : (⟨#[]⟩ : ByteArray).toList = [] := B_toList []
theorem split_pre (l : Bs) (h0 : (splitV l).2.2 = 0) (h1 : (splitV l).1.toList ≠ []) : postC l ≠ [] ∧ plainB (preC l) = true ∧ plainB (postC l).tail = true ∧ splitV l = (B (preC l), B (postC l).tail, 0) := by
  unfold splitV at h0 h1 ⊢
  by_cases hp : postC l = []
  · rw [if_pos hp] at h1
    by_cases hq : plainB l = true
    · rw [if_pos hq] at h1; exact absurd nil_toList h1
    · rw [if_neg hq] at h1; exact absurd nil_toList h1
  · rw [if_neg hp] at h0 ⊢
    by_cases hq : plainB (preC l) = true
    · rw [if_pos hq] at h0 ⊢
      by_cases hr : plainB (postC l).tail = true
      · rw [if_pos hr]; exact ⟨hp, hq, hr, rfl⟩
      · rw [if_neg hr] at h0; exact absurd h0 (by decide)
    · rw [if_neg hq] at h0; exact absurd h0 (by decide)
theorem declV_spec : ∀ (l sc re : List S30), (∀ x ∈ l, x.f0.size ≤ 300) →
    ((declV sc re l).2.2 = 0 ∧ ∃ s r, declV sc re l = (sc ++ s, re ++ r, 0) ∧ s.length + r.length = l.length ∧ r = l.filter restOf ∧ ∀ x ∈ s, goodS x) ∨
    ((declV sc re l).2.2 ≠ 0 ∧ (declV sc re l).1 = [] ∧ (declV sc re l).2.1 = []) := by
  intro l
  induction l with
  | nil => intro sc re _; exact .inl ⟨rfl, [], [], by simp [declV], rfl, rfl, by simp⟩
  | cons x t ih =>
    intro sc re hn
    have hx := hn x (List.mem_cons_self ..)
    have ht : ∀ y ∈ t, y.f0.size ≤ 300 := fun y hy => hn y (List.mem_cons_of_mem _ hy)
    have bad : ∀ e : Int, e ≠ 0 → ((([], [], e) : D3).2.2 ≠ 0 ∧ (([], [], e) : D3).1 = [] ∧ (([], [], e) : D3).2.1 = []) := fun e he => ⟨he, rfl, rfl⟩
    unfold declV
    by_cases h0 : (splitV x.f0.toList).2.2 = 0
    · rw [if_pos h0]
      have addS : ∀ y : S30, restOf x = false → goodS y → ((declV (sc ++ [y]) re t).2.2 = 0 ∧ ∃ s r, declV (sc ++ [y]) re t = (sc ++ s, re ++ r, 0) ∧ s.length + r.length = (x :: t).length ∧ r = (x :: t).filter restOf ∧ ∀ x ∈ s, goodS x) ∨ ((declV (sc ++ [y]) re t).2.2 ≠ 0 ∧ (declV (sc ++ [y]) re t).1 = [] ∧ (declV (sc ++ [y]) re t).2.1 = []) := by
        intro y hr hg
        rcases ih (sc ++ [y]) re ht with ⟨h, s, r, e1, e2, e3, e4⟩ | h
        · refine .inl ⟨h, y :: s, r, by rw [e1]; simp, by simp; omega, by rw [List.filter_cons, hr]; exact e3, ?_⟩
          intro z hz
          rcases List.mem_cons.1 hz with rfl | hz
          · exact hg
          · exact e4 z hz
        · exact .inr h
      by_cases h1 : (splitV x.f0.toList).1.toList = [] ∧ (splitV x.f0.toList).2.1.toList = xmlns
      · rw [if_pos h1]
        by_cases h2 : mayV [] x.f1.toList = true
        · rw [if_pos h2]
          refine addS ⟨⟨#[]⟩, x.f1⟩ (by unfold restOf; simp [h1]) ⟨?_, .inl nil_toList, (show (⟨#[]⟩ : ByteArray).size ≤ 300 by decide)⟩
          show mayV (⟨#[]⟩ : ByteArray).toList x.f1.toList = true
          rw [nil_toList]; exact h2
        · rw [if_neg h2]; exact .inr (bad 80 (by decide))
      · rw [if_neg h1]
        by_cases h3 : (splitV x.f0.toList).1.toList = xmlns
        · rw [if_pos h3]
          by_cases h2 : mayV (splitV x.f0.toList).2.1.toList x.f1.toList = true
          · rw [if_pos h2]
            obtain ⟨p1, p2, p3, p4⟩ := split_pre _ h0 (by rw [h3]; decide)
            refine addS ⟨(splitV x.f0.toList).2.1, x.f1⟩ (by unfold restOf; simp [h3]) ⟨h2, .inr ?_, ?_⟩
            · show plainB (splitV x.f0.toList).2.1.toList = true
              rw [p4, B_toList]; exact p3
            · show (splitV x.f0.toList).2.1.size ≤ 300
              have hl := pre_len x.f0.toList
              rw [size_toList] at hl
              rw [p4, B_size, List.length_tail]
              omega
          · rw [if_neg h2]; exact .inr (bad 80 (by decide))
        · rw [if_neg h3]
          rcases ih sc (re ++ [x]) ht with ⟨h, s, r, e1, e2, e3, e4⟩ | h
          · refine .inl ⟨h, s, x :: r, by rw [e1]; simp, by simp; omega, ?_, e4⟩
            have hr : restOf x = true := by unfold restOf; simp [h1, h3]
            rw [List.filter_cons, if_pos hr, e3]
          · exact .inr h
    · rw [if_neg h0]; exact .inr (bad _ h0)

theorem space_keepsC (l m : List S30) (p : Bs) (hm : ∀ x ∈ m, x.f0.toList ≠ p) : spaceV (l ++ m) p = spaceV l p := by
  have h : m.reverse.find? (hitV p) = none := by
    rw [List.find?_eq_none]
    intro x hx
    have := hm x (List.mem_reverse.1 hx)
    simp [hitV, this]
  unfold spaceV
  rw [List.reverse_append, List.find?_append, h]
  rfl
theorem space_last (l : List S30) (i : Nat) (h : i < l.length) (hl : ∀ m, i < m → ∀ hm : m < l.length, l[m].f0.toList ≠ l[i].f0.toList) : spaceV l l[i].f0.toList = (l[i].f1, l[i].f0.toList.isEmpty || !l[i].f1.toList.isEmpty) := by
  have e := space_keepsC (l.take (i + 1)) (l.drop (i + 1)) l[i].f0.toList (fun x hx => by
    obtain ⟨j, hj, rfl⟩ := List.mem_iff_getElem.1 hx
    rw [List.getElem_drop]
    rw [List.length_drop] at hj
    exact hl (i + 1 + j) (by omega) (by omega))
  rw [List.take_append_drop] at e
  rw [e, space_succ l i h, if_pos (show hitV l[i].f0.toList l[i] = true from beq_iff_eq.2 rfl)]
theorem plain_noC {l : Bs} (h : plainB l = true) : ∀ c ∈ l, c ≠ 58 := by
  unfold plainB noC at h
  simp only [Bool.and_eq_true, List.all_eq_true, bne_iff_ne] at h
  exact h.2
theorem plain_ne {l : Bs} (h : plainB l = true) : l ≠ [] := by
  intro e
  subst e
  exact absurd h (by decide)
def nameOf (x : S30) (s : Bs) : Bs := if x.f0.toList = [] then s else x.f0.toList ++ 58 :: s
theorem binds_at (sc : List S30) (i : Nat) (h : i < sc.length) (hg : goodS sc[i]) (s : Bs) (hs : (splitV s).2.2 = 0)
    (hl : ∀ m, i < m → ∀ hm : m < sc.length, sc[m].f0.toList ≠ sc[i].f0.toList) (h1 : (splitV (nameOf sc[i] s)).2.2 = 0) (h2 : (resolveV sc (nameOf sc[i] s) false).2.1.toList = s) :
    (resolveV sc (nameOf sc[i] s) false).2.2 = 0 ∧ (resolveV sc (nameOf sc[i] s) false).1.toList = sc[i].f1.toList := by
  obtain ⟨g1, g2, _⟩ := hg
  have hsp := space_last sc i h hl
  have hs0 : s ≠ [] := by
    intro e; subst e; exact absurd hs (by decide)
  by_cases hf : sc[i].f0.toList = []
  · have en : nameOf sc[i] s = s := by unfold nameOf; rw [if_pos hf]
    rw [en] at h1 h2 ⊢
    by_cases hp : postC s = []
    · have es : splitV s = ((⟨#[]⟩ : ByteArray), B s, 0) := by
        unfold splitV at h1 ⊢
        rw [if_pos hp] at h1 ⊢
        by_cases hq : plainB s = true
        · rw [if_pos hq]
        · rw [if_neg hq] at h1; exact absurd h1 (by decide)
      have er : resolveV sc s false = (sc[i].f1, B s, 0) := by
        unfold resolveV
        rw [es]
        simp only [if_true, nil_toList, Bool.false_eq_true, and_false, if_false]
        rw [hf] at hsp
        rw [if_neg (show ¬ ([] : Bs) = xml by decide), if_neg (show ¬ ([] : Bs) = xmlns by decide), hsp]
        rfl
      rw [er]
      exact ⟨rfl, rfl⟩
    · exfalso
      have hlen := pre_len s
      have htl : (postC s).tail.length < s.length := by
        rw [List.length_tail]
        have : 0 < (postC s).length := List.length_pos_iff.2 hp
        omega
      have es : splitV s = (B (preC s), B (postC s).tail, 0) := by
        unfold splitV at h1 ⊢
        rw [if_neg hp] at h1 ⊢
        by_cases hq : plainB (preC s) = true
        · rw [if_pos hq] at h1 ⊢
          by_cases hr : plainB (postC s).tail = true
          · rw [if_pos hr]
          · rw [if_neg hr] at h1; exact absurd h1 (by decide)
        · rw [if_neg hq] at h1; exact absurd h1 (by decide)
      have hn : (resolveV sc s false).2.1.toList = (postC s).tail ∨ (resolveV sc s false).2.1.toList = [] := by
        unfold resolveV
        rw [es]
        simp only [if_true]
        split
        · left; exact B_toList _
        · split
          · right; exact nil_toList
          · split
            · left; exact B_toList _
            · unfold endV
              split
              · left; exact B_toList _
              · right; exact nil_toList
      rcases hn with hn | hn
      · rw [hn] at h2; rw [h2] at htl; omega
      · rw [hn] at h2; exact hs0 h2.symm
  · have hpl : plainB sc[i].f0.toList = true := g2.resolve_left hf
    have en : nameOf sc[i] s = sc[i].f0.toList ++ 58 :: s := by unfold nameOf; rw [if_neg hf]
    have ha := pre_at sc[i].f0.toList s (plain_noC hpl)
    rw [en] at h1 h2 ⊢
    have es : splitV (sc[i].f0.toList ++ 58 :: s) = (B sc[i].f0.toList, B s, 0) := by
      unfold splitV at h1 ⊢
      rw [ha.1, ha.2, if_neg (by simp), if_pos hpl, List.tail_cons] at h1 ⊢
      by_cases hq : plainB s = true
      · rw [if_pos hq]
      · rw [if_neg hq] at h1; exact absurd h1 (by decide)
    have er : resolveV sc (sc[i].f0.toList ++ 58 :: s) false = if sc[i].f0.toList = xml then (B tXML, B s, 0) else if sc[i].f0.toList = xmlns then bad80 else endV (spaceV sc sc[i].f0.toList) (B s) := by
      unfold resolveV
      rw [es]
      simp only [if_true, B_toList, Bool.false_eq_true, and_false, if_false]
    rw [er]
    by_cases hx : sc[i].f0.toList = xml
    · rw [if_pos hx]
      refine ⟨rfl, ?_⟩
      show (B tXML).toList = _
      rw [B_toList]
      unfold mayV at g1
      rw [if_pos hx] at g1
      exact (beq_iff_eq.1 g1).symm
    · rw [if_neg hx]
      by_cases hy : sc[i].f0.toList = xmlns
      · unfold mayV at g1
        rw [if_neg hx, if_pos hy] at g1
        exact absurd g1 (by decide)
      · rw [if_neg hy, hsp]
        unfold mayV at g1
        rw [if_neg hx, if_neg hy] at g1
        have hv : sc[i].f1.toList ≠ [] := by
          split at g1
          · cases g1
          · split at g1
            · cases g1
            · first | exact bne_iff_ne.1 g1 | (rw [if_neg hf] at g1; exact bne_iff_ne.1 g1)
        have hb : (sc[i].f0.toList.isEmpty || !sc[i].f1.toList.isEmpty) = true := by
          have : sc[i].f1.toList.isEmpty = false := by simpa using hv
          rw [this]; simp
        unfold endV
        rw [if_pos hb]
        exact ⟨rfl, rfl⟩

theorem sub_tail {α : Type} {x y : α} {a b : List α} (h : (y :: a).Sublist (x :: b)) : a.Sublist b := by
  cases h with
  | cons _ h' => exact (List.sublist_cons_self _ _).trans h'
  | cons_cons _ h' => exact h'
theorem sub_skip {α : Type} {x y : α} {a b : List α} (h : (y :: a).Sublist (x :: b)) (hne : x ≠ y) : (y :: a).Sublist b := by
  cases h with
  | cons _ h' => exact h'
  | cons_cons _ h' => exact absurd rfl hne
set_option maxHeartbeats 2000000 in
theorem binds_l2 (sc : List S30) (hsc : sc.length ≤ 100) (hg : ∀ x ∈ sc, goodS x) (s : Bs) (hs : s.length ≤ 300) : ∀ (d i : Nat), sc.length - i ≤ d → i ≤ sc.length → Ev (fun k => broadsheetlaw08_PrefixBinds.l2 k (B s) true sc (splitV s).2.2 (i : Int)) true := by
  have out : ∀ i : Nat, Ev (fun k => broadsheetlaw08_PrefixBinds.j5 k (B s) true sc (splitV s).2.2 (i : Int) false) true := by
    intro i
    refine Ev.step (fun k => (show broadsheetlaw08_PrefixBinds.j5 (k + 1) (B s) true sc (splitV s).2.2 i false = _ by rw [broadsheetlaw08_PrefixBinds.j5])) ?_
    simp only [Bool.false_eq_true, if_false]
    exact Ev.now _
  have fin : ∀ i : Nat, ¬ i < sc.length → Ev (fun k => broadsheetlaw08_PrefixBinds.l2 k (B s) true sc (splitV s).2.2 (i : Int)) true := by
    intro i h
    refine Ev.step (fun k => (show broadsheetlaw08_PrefixBinds.l2 (k + 1) (B s) true sc (splitV s).2.2 i = _ by rw [broadsheetlaw08_PrefixBinds.l2])) ?_
    simp only [if_neg (show ¬ (i : Int) < (sc.length : Int) by omega)]
    exact out i
  intro d
  induction d with
  | zero => intro i hd hi; exact fin i (by omega)
  | succ d ih =>
    intro i hd hi
    by_cases h : i < sc.length
    · refine Ev.step (fun k => (show broadsheetlaw08_PrefixBinds.l2 (k + 1) (B s) true sc (splitV s).2.2 i = _ by rw [broadsheetlaw08_PrefixBinds.l2])) ?_
      simp only [if_pos (show (i : Int) < (sc.length : Int) by omega)]
      by_cases he : (splitV s).2.2 = 0
      · have hb : ((splitV s).2.2 == 0) = true := beq_iff_eq.2 he
        rw [hb]
        have HE := Aside0.mk he
        clear he hb
        have e1 : wrap64 ((i : Int) + 1) = ((i + 1 : Nat) : Int) := by rw [w64 (by omega) (by omega)]; rfl
        have next := ih (i + 1) (by omega) (by omega)
        have hgi := hg sc[i] (List.getElem_mem h)
        refine Ev.step (fun k => (show broadsheetlaw08_PrefixBinds.j5 (k + 1) (B s) true sc (splitV s).2.2 i true = _ by rw [broadsheetlaw08_PrefixBinds.j5])) ?_
        simp only [if_true, e1]
        have main : ∀ last : Bool, (last = true → ∀ m, i < m → ∀ hm : m < sc.length, sc[m].f0.toList ≠ sc[i].f0.toList) → Ev (fun k => broadsheetlaw08_PrefixBinds.j7 k (B s) true sc (splitV s).2.2 (i : Int) last (B (nameOf sc[i] s))) true := by
          intro last hlast
          have hnl : (nameOf sc[i] s).length < 4294967281 := by
            unfold nameOf
            have := hgi.2.2
            split
            · omega
            · rw [List.length_append, List.length_cons, size_toList]; omega
          refine Ev.step (fun k => (show broadsheetlaw08_PrefixBinds.j7 (k + 1) (B s) true sc (splitV s).2.2 i last (B (nameOf sc[i] s)) = _ by rw [broadsheetlaw08_PrefixBinds.j7])) ?_
          refine Ev.bind (gresolve_ev sc (by omega) _ hnl false) ?_
          refine Ev.bind (gsplit_ev _ hnl) ?_
          rw [rd30 sc i h]
          simp only [B_toList, e1, if_pos (show (0 : Int) ≤ (i : Int) by omega), if_pos (show (i : Int) < (sc.length : Int) by omega)]
          by_cases c1 : last = true
          · simp only [if_pos c1]
            by_cases c2 : (splitV (nameOf sc[i] s)).2.2 = 0
            · simp only [if_pos c2]
              by_cases c3 : (resolveV sc (nameOf sc[i] s) false).2.1.toList = s
              · obtain ⟨q1, q2⟩ := binds_at sc i h hgi s HE.out (hlast c1) c2 c3
                simp only [if_pos c3, if_pos q1, if_pos q2]
                exact next
              · simp only [if_neg c3]; exact next
            · simp only [if_neg c2]; exact next
          · simp only [if_neg c1]; exact next
        have l3 : ∀ (e j : Nat) (last : Bool), sc.length - j ≤ e → j ≤ sc.length → (last = true → ∀ m, i < m → m < j → ∀ hm : m < sc.length, sc[m].f0.toList ≠ sc[i].f0.toList) → Ev (fun k => broadsheetlaw08_PrefixBinds.l3 k (B s) true sc (splitV s).2.2 (i : Int) last (j : Int)) true := by
          have fin3 : ∀ (j : Nat) (last : Bool), ¬ j < sc.length → (last = true → ∀ m, i < m → m < j → ∀ hm : m < sc.length, sc[m].f0.toList ≠ sc[i].f0.toList) → Ev (fun k => broadsheetlaw08_PrefixBinds.l3 k (B s) true sc (splitV s).2.2 (i : Int) last (j : Int)) true := by
            intro j last hj hlast
            have hm := main last (fun h m h1 h2 => hlast h m h1 (by omega) h2)
            refine Ev.step (fun k => (show broadsheetlaw08_PrefixBinds.l3 (k + 1) (B s) true sc (splitV s).2.2 i last j = _ by rw [broadsheetlaw08_PrefixBinds.l3])) ?_
            rw [rd30 sc i h]
            simp only [if_neg (show ¬ (j : Int) < (sc.length : Int) by omega), if_pos (show (0 : Int) ≤ (i : Int) by omega), if_pos (show (i : Int) < (sc.length : Int) by omega)]
            by_cases hf : sc[i].f0.toList = []
            · have en : nameOf sc[i] s = s := by unfold nameOf; rw [if_pos hf]
              rw [en] at hm
              simp only [if_pos hf]
              exact hm
            · have en : (sc[i].f0 ++ (⟨#[58]⟩ : ByteArray)) ++ B s = B (nameOf sc[i] s) := by
                unfold nameOf
                rw [if_neg hf]
                obtain ⟨q, hq⟩ := B_eta sc[i].f0
                rw [hq, B_toList, show (⟨#[58]⟩ : ByteArray) = B [58] from rfl, B_append, B_append, List.append_assoc]
                rfl
              have hz : (sc[i].f0 ++ (⟨#[58]⟩ : ByteArray)).size = sc[i].f0.size + 1 := by
                obtain ⟨q, hq⟩ := B_eta sc[i].f0
                rw [hq, show (⟨#[58]⟩ : ByteArray) = B [58] from rfl, B_append, B_size, B_size, List.length_append]
                rfl
              have hz3 := hgi.2.2
              have hz1 : sc[i].f0.size + 1 ≤ 9223372036854775807 := Nat.le_trans (Nat.add_le_add_right hz3 1) (by decide)
              have hz2 : (sc[i].f0 ++ (⟨#[58]⟩ : ByteArray)).size + (B s).size ≤ 9223372036854775807 := by
                rw [hz, B_size]
                exact Nat.le_trans (Nat.add_le_add (Nat.add_le_add_right hz3 1) hs) (by decide)
              simp only [if_neg hf, if_pos hz1, if_pos hz2, en]
              exact hm
          intro e
          induction e with
          | zero => intro j last he2 hj hlast; exact fin3 j last (by omega) hlast
          | succ e ih3 =>
            intro j last he2 hj hlast
            by_cases hjl : j < sc.length
            · have e2 : wrap64 ((j : Int) + 1) = ((j + 1 : Nat) : Int) := by rw [w64 (by omega) (by omega)]; rfl
              refine Ev.step (fun k => (show broadsheetlaw08_PrefixBinds.l3 (k + 1) (B s) true sc (splitV s).2.2 i last j = _ by rw [broadsheetlaw08_PrefixBinds.l3])) ?_
              rw [rd30 sc i h, rd30 sc j hjl]
              simp only [if_pos (show (j : Int) < (sc.length : Int) by omega), if_pos (show (0 : Int) ≤ (i : Int) by omega), if_pos (show (0 : Int) ≤ (j : Int) by omega), if_pos (show (i : Int) < (sc.length : Int) by omega), e2]
              by_cases c1 : last = true
              · simp only [if_pos c1]
                refine ih3 (j + 1) _ (by omega) (by omega) ?_
                intro hb m h1 h2 hm
                by_cases hmj : m = j
                · subst hmj; exact bne_iff_ne.1 hb
                · exact hlast c1 m h1 (by omega) hm
              · simp only [if_neg c1]
                exact ih3 (j + 1) false (by omega) (by omega) (fun h => by cases h)
            · exact fin3 j last hjl hlast
        exact l3 sc.length (i + 1) true (by omega) (by omega) (fun _ m h1 h2 => by omega)
      · have hb : ((splitV s).2.2 == 0) = false := beq_eq_false_iff_ne.2 he
        rw [hb]
        exact out i
    · exact fin i h
theorem binds_l1 (l sc re : List S30) (hl : l.length ≤ 50) (hsc : sc.length ≤ 100) (hre : re.length ≤ 100) (hg : ∀ x ∈ sc, goodS x) (s : Bs) (hs : s.length ≤ 300) : ∀ (d i k : Nat), l.length - i ≤ d → i ≤ l.length → k ≤ re.length → (re.drop k).Sublist (l.drop i) → Ev (fun n => broadsheetlaw08_PrefixBinds.l1 n l (B s) true sc re (k : Int) (i : Int)) true := by
  have done : ∀ (i : Nat), Ev (fun n => broadsheetlaw08_PrefixBinds.j3 n l (B s) true sc re (re.length : Int) (i : Int) false) true := by
    intro i
    refine Ev.step (fun n => (show broadsheetlaw08_PrefixBinds.j3 (n + 1) l (B s) true sc re (re.length : Int) i false = _ from by rw [broadsheetlaw08_PrefixBinds.j3])) ?_
    simp only [Bool.false_eq_true, if_false, if_true]
    refine Ev.bind (gsplit_ev s (by omega)) ?_
    exact binds_l2 sc hsc hg s hs sc.length 0 (by omega) (by omega)
  intro d
  induction d with
  | zero =>
    intro i k hd hi hk hsub
    have e : l.drop i = [] := List.drop_eq_nil_of_le (by omega)
    rw [e] at hsub
    have ek : k = re.length := by
      have := hsub.length_le
      rw [List.length_drop] at this
      simp only [List.length_nil] at this
      omega
    subst ek
    refine Ev.step (fun n => (show broadsheetlaw08_PrefixBinds.l1 (n + 1) l (B s) true sc re (re.length : Int) i = _ from by rw [broadsheetlaw08_PrefixBinds.l1])) ?_
    simp only [if_neg (show ¬ (i : Int) < (l.length : Int) by omega)]
    exact done i
  | succ d ih =>
    intro i k hd hi hk hsub
    refine Ev.step (fun n => (show broadsheetlaw08_PrefixBinds.l1 (n + 1) l (B s) true sc re (k : Int) i = _ from by rw [broadsheetlaw08_PrefixBinds.l1])) ?_
    by_cases h : i < l.length
    · simp only [if_pos (show (i : Int) < (l.length : Int) by omega)]
      by_cases hkr : k < re.length
      · have e1 : wrap64 ((i : Int) + 1) = ((i + 1 : Nat) : Int) := by rw [w64 (by omega) (by omega)]; rfl
        have e2 : wrap64 ((k : Int) + 1) = ((k + 1 : Nat) : Int) := by rw [w64 (by omega) (by omega)]; rfl
        simp only [decide_eq_true (show (k : Int) < (re.length : Int) by omega)]
        refine Ev.step (fun n => (show broadsheetlaw08_PrefixBinds.j3 (n + 1) l (B s) true sc re (k : Int) i true = _ from by rw [broadsheetlaw08_PrefixBinds.j3])) ?_
        rw [rd30 l i h, rd30 re k hkr]
        simp only [if_true, if_pos (show (0 : Int) ≤ (i : Int) by omega), if_pos (show (i : Int) < (l.length : Int) by omega), if_pos (show (0 : Int) ≤ (k : Int) by omega), if_pos (show (k : Int) < (re.length : Int) by omega), e1, e2]
        rw [List.drop_eq_getElem_cons h, List.drop_eq_getElem_cons hkr] at hsub
        by_cases hc : (l[i].f0.toList == re[k].f0.toList && (l[i].f1.toList == re[k].f1.toList)) = true
        · simp only [if_pos hc]
          refine ih (i + 1) (k + 1) (by omega) (by omega) (by omega) ?_
          exact sub_tail hsub
        · simp only [if_neg hc]
          refine ih (i + 1) k (by omega) (by omega) (by omega) ?_
          rw [List.drop_eq_getElem_cons hkr]
          refine sub_skip hsub (fun e => hc ?_)
          rw [e]
          simp
      · have ek : k = re.length := by omega
        subst ek
        simp only [decide_eq_false (show ¬ (re.length : Int) < (re.length : Int) by omega)]
        exact done i
    · have e : l.drop i = [] := List.drop_eq_nil_of_le (by omega)
      rw [e] at hsub
      have ek : k = re.length := by
        have := hsub.length_le
        rw [List.length_drop] at this
        simp only [List.length_nil] at this
        omega
      subst ek
      simp only [if_neg (show ¬ (i : Int) < (l.length : Int) by omega)]
      exact done i
theorem binds_l0 (l : List S30) (hl : l.length ≤ 50) (s : Bs) (hs : s.length ≤ 300) : ∀ (d i : Nat), l.length - i ≤ d → i ≤ l.length → (∀ x ∈ l.take i, x.f0.size ≤ 300) → Ev (fun k => broadsheetlaw08_PrefixBinds.l0 k l (B s) true (i : Int)) true := by
  have fin : ∀ i : Nat, ¬ i < l.length → (∀ x ∈ l, x.f0.size ≤ 300) → Ev (fun k => broadsheetlaw08_PrefixBinds.l0 k l (B s) true (i : Int)) true := by
    intro i h hall
    have hn : ∀ x ∈ l, x.f0.size < 4294967281 := fun x hx => by have := hall x hx; omega
    refine Ev.step (fun k => (show broadsheetlaw08_PrefixBinds.l0 (k + 1) l (B s) true i = _ by rw [broadsheetlaw08_PrefixBinds.l0])) ?_
    simp only [if_neg (show ¬ (i : Int) < (l.length : Int) by omega)]
    refine Ev.bind (gdecl_ev l (by omega) hn) ?_
    rcases declV_spec l [] [] hall with ⟨h0, sc, re, e1, e2, e3, e4⟩ | ⟨h0, h1, h2⟩
    · rw [e1]
      simp only [List.nil_append, if_true]
      have ew : wrap64 ((sc.length : Int) + (re.length : Int)) = (l.length : Int) := by rw [w64 (by omega) (by omega)]; omega
      simp only [ew, if_true]
      exact binds_l1 l sc re hl (by omega) (by omega) e4 s hs l.length 0 0 (by omega) (by omega) (by omega) (by rw [List.drop_zero, List.drop_zero, e3]; exact List.filter_sublist)
    · have hz : (wrap64 (((0 : Nat) : Int) + ((0 : Nat) : Int)) == 0) = true := by rw [w64 (by omega) (by omega)]; rfl
      simp only [if_neg h0, if_true, h1, h2, List.length_nil, hz]
      exact Ev.now _
  intro d
  induction d with
  | zero =>
    intro i hd hi hall
    rw [List.take_of_length_le (by omega)] at hall
    exact fin i (by omega) hall
  | succ d ih =>
    intro i hd hi hall
    by_cases h : i < l.length
    · have e1 : wrap64 ((i : Int) + 1) = ((i + 1 : Nat) : Int) := by rw [w64 (by omega) (by omega)]; rfl
      refine Ev.step (fun k => (show broadsheetlaw08_PrefixBinds.l0 (k + 1) l (B s) true i = _ by rw [broadsheetlaw08_PrefixBinds.l0])) ?_
      simp only [if_pos (show (i : Int) < (l.length : Int) by omega), if_pos (show (0 : Int) ≤ (i : Int) by omega), rd30 l i h, e1]
      by_cases hx : l[i].f0.size > 300
      · simp only [if_pos (show (l[i].f0.size : Int) > 300 by omega)]
        exact Ev.now _
      · simp only [if_neg (show ¬ (l[i].f0.size : Int) > 300 by omega)]
        refine ih (i + 1) (by omega) (by omega) ?_
        intro x hx2
        rw [List.take_add_one, List.getElem?_eq_getElem h] at hx2
        rcases List.mem_append.1 hx2 with hx2 | hx2
        · exact hall x hx2
        · simp only [Option.toList_some, List.mem_singleton] at hx2
          rw [hx2]; omega
    · rw [List.take_of_length_le (by omega)] at hall
      exact fin i h hall
theorem PrefixBinds (l : List S30) (a : ByteArray) : ∃ k, broadsheetlaw08_PrefixBinds.f k l a = some true := by
  obtain ⟨s, rfl⟩ := B_eta a
  refine Ev.rounds (g := fun k => broadsheetlaw08_PrefixBinds.f k l (B s)) ?_
  unfold broadsheetlaw08_PrefixBinds.f
  refine Ev.bind awake08 ?_
  simp only [if_true]
  have out : Ev (fun k => broadsheetlaw08_PrefixBinds.j0 k l (B s) true true) true := by
    refine Ev.step (fun k => (show broadsheetlaw08_PrefixBinds.j0 (k + 1) l (B s) true true = _ by rw [broadsheetlaw08_PrefixBinds.j0])) ?_
    simp only [if_true]
    exact Ev.now _
  by_cases hl : l.length > 50
  · simp only [if_pos (show (l.length : Int) > 50 by omega)]; exact out
  · simp only [if_neg (show ¬ (l.length : Int) > 50 by omega)]
    by_cases hs : s.length > 300
    · simp only [decide_eq_true (show ((B s).size : Int) > 300 by rw [B_size]; omega)]; exact out
    · simp only [decide_eq_false (show ¬ ((B s).size : Int) > 300 by rw [B_size]; omega)]
      refine Ev.step (fun k => (show broadsheetlaw08_PrefixBinds.j0 (k + 1) l (B s) true false = _ by rw [broadsheetlaw08_PrefixBinds.j0])) ?_
      simp only [Bool.false_eq_true, if_false]
      exact binds_l0 l (by omega) s (by omega) l.length 0 (by omega) (by omega) (by simp)
end Go.Proofs.YtidjihhklmfaiaaDoor.Pure
