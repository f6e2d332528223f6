/- Plain law of fields: what the reference's small functions come to: tokens, blanks, values, lines, small letters. -/
import Derived.Test.YtodhbldnmepmaaaDoorU0
import Derived.Test.YtodhbldnmepmaaaDoorPf4
import Derived.Test.YtodhbldnmepmaaaDoorXExtF
namespace Go.Proofs.YtodhbldnmepmaaaDoor.F
open Go.RowKit Go.Lib Go.Proofs.YtodhbldnmepmaaaDoorW.PrintWords Go.Proofs.YtodhbldnmepmaaaDoor.X Go.Proofs.YtodhbldnmepmaaaDoor.Pf Go.Proofs.YtodhbldnmepmaaaDoor.U
set_option linter.unusedSimpArgs false
theorem val_ne (c d : UInt8) (h : c ≠ d) : ¬ ((c.toNat : Nat) : Int) = ((d.toNat : Nat) : Int) := fun hh => h (UInt8.toNat_inj.1 (by omega))
theorem val_eq (c d : UInt8) (h : c = d) : ((c.toNat : Nat) : Int) = ((d.toNat : Nat) : Int) := by rw [h]
theorem bt_val (l : Bs) (i : Nat) (h : i < l.length) : bt (B l) (i : Int) = (l[i].toNat : Int) := B_bt l i h
theorem bt_head (c : UInt8) (t : Bs) : bt (B (c :: t)) 0 = (c.toNat : Int) := B_bt (c :: t) 0 (by simp)
theorem extract_tail (l : Bs) (n : Nat) : (B l).extract n (B l).size = B (l.drop n) := by rw [B_extract, B_size, List.take_length]
theorem extract_head (l : Bs) (n : Nat) : (B l).extract 0 n = B (l.take n) := by rw [B_extract, List.drop_zero]
theorem toList_nil (l : Bs) : ((B l).toList = ([] : List UInt8)) ↔ l = [] := by rw [B_toList]
theorem wstep (i : Nat) (h : i < 4611686018427387904) : wrap64 ((i : Int) + 1) = ((i + 1 : Nat) : Int) := by rw [w64 (by omega) (by omega)]; rfl
theorem rtokb (c : UInt8) : Ev (fun k => broadsheetref13_TokenByte.f k (c.toNat : Int)) (tokB c) := by
  have key : ∀ n : Nat, n < 256 → broadsheetref13_TokenByte.f 2 (n : Int) = some (tokB (UInt8.ofNat n)) := by decide +kernel
  have := key c.toNat c.toNat_lt
  rw [UInt8.ofNat_toNat] at this
  exact Ev.of (fun k => broadsheetref13_TokenByte.mono _ k) (k := 2) this
theorem tw_split (p : UInt8 → Bool) (l : Bs) (i : Nat) (hall : ∀ c ∈ l.take i, p c = true) : l.takeWhile p = l.take i ++ (l.drop i).takeWhile p ∧ l.dropWhile p = (l.drop i).dropWhile p := by
  have e : l = l.take i ++ l.drop i := (List.take_append_drop i l).symm
  constructor
  · conv => lhs; rw [e]
    rw [List.takeWhile_append_of_pos hall]
  · conv => lhs; rw [e]
    rw [List.dropWhile_append_of_pos hall]
theorem take_mem (l : Bs) (p : UInt8 → Bool) (i : Nat) (h : i < l.length) (hall : ∀ c ∈ l.take i, p c = true) (hc : p l[i] = true) : ∀ c ∈ l.take (i + 1), p c = true := by
  intro c hm
  rw [List.take_succ_eq_append_getElem h] at hm
  rcases List.mem_append.1 hm with hm | hm
  · exact hall c hm
  · rw [List.mem_singleton.1 hm]; exact hc
theorem rtoken_l0 (l : Bs) (hl : l.length < 4611686018427387904) : ∀ (d i : Nat), l.length - i ≤ d → i ≤ l.length → (∀ c ∈ l.take i, tokB c = true) → Ev (fun k => broadsheetref13_Token.l0 k (B l) (i : Int)) (B (l.takeWhile tokB), B (l.dropWhile tokB)) := by
  have fin : ∀ i, ¬ i < l.length → i ≤ l.length → (∀ c ∈ l.take i, tokB c = true) → Ev (fun k => broadsheetref13_Token.l0 k (B l) (i : Int)) (B (l.takeWhile tokB), B (l.dropWhile tokB)) := by
    intro i h h2 hall
    refine Ev.step (fun k => (show broadsheetref13_Token.l0 (k + 1) (B l) (i : Int) = _ from by rw [broadsheetref13_Token.l0])) ?_
    obtain ⟨e1, e2⟩ := tw_split tokB l i hall
    rw [e1, e2, List.drop_eq_nil_of_le (by omega)]
    refine Ev.ite_neg (by rw [B_size]; omega) (Ev.ite_pos (by omega) (Ev.ite_pos (by rw [B_size]; omega) ?_))
    rw [Int.toNat_natCast, extract_head, extract_tail, List.drop_eq_nil_of_le (by omega)]
    simpa using Ev.now _
  intro d
  induction d with
  | zero => intro i hd hi hall; exact fin i (by omega) hi hall
  | succ d ih =>
    intro i hd hi hall
    by_cases h : i < l.length
    · refine Ev.step (fun k => (show broadsheetref13_Token.l0 (k + 1) (B l) (i : Int) = _ from by rw [broadsheetref13_Token.l0])) ?_
      rw [bt_val l i h, wstep i (by omega)]
      refine Ev.ite_pos (by rw [B_size]; omega) (Ev.ite_pos (by omega) (Ev.bind (rtokb l[i]) ?_))
      cases ht : tokB l[i] with
      | true => exact Ev.ite_pos rfl (ih (i + 1) (by omega) (by omega) (take_mem l tokB i h hall ht))
      | false =>
        refine Ev.ite_neg (by decide) (Ev.ite_pos (by rw [B_size]; omega) ?_)
        obtain ⟨e1, e2⟩ := tw_split tokB l i hall
        obtain ⟨e3, e4⟩ := tw_drop tokB l i h
        rw [ht] at e3 e4
        rw [e1, e2, e3, e4, Int.toNat_natCast, extract_head, extract_tail]
        simpa using Ev.now _
    · exact fin i h hi hall
theorem rtoken_ev (l : Bs) (hl : l.length < 4611686018427387904) : Ev (fun k => broadsheetref13_Token.f k (B l)) (B (l.takeWhile tokB), B (l.dropWhile tokB)) :=
  rtoken_l0 l hl l.length 0 (by omega) (by omega) (by simp)
def blank (c : UInt8) : Bool := ([32, 9] : Bs).contains c
theorem blank_or (c : UInt8) : blank c = true ↔ c = 32 ∨ c = 9 := by simp [blank]
theorem rskip_ev : ∀ (l : Bs), l.length < 4611686018427387904 → Ev (fun k => broadsheetref13_Skip.f k (B l)) (B (l.dropWhile blank)) := by
  intro l
  induction l with
  | nil =>
    intro _
    refine Ev.step (fun k => (show broadsheetref13_Skip.l0 (k + 1) (B []) = _ from by rw [broadsheetref13_Skip.l0])) ?_
    exact Ev.now _
  | cons c t ih =>
    intro hl
    have hl2 : t.length < 4611686018427387904 := by rw [List.length_cons] at hl; omega
    refine Ev.step (fun k => (show broadsheetref13_Skip.l0 (k + 1) (B (c :: t)) = _ from by rw [broadsheetref13_Skip.l0])) ?_
    have hs : ((B (c :: t)).size : Int) = (t.length : Int) + 1 := by rw [B_size]; simp
    rw [bt_head, extract_tail, List.drop_one, List.tail_cons, List.dropWhile_cons]
    refine Ev.ite_pos (by omega) (Ev.ite_pos (by omega) ?_)
    by_cases h1 : c = 32
    · rw [if_pos ((blank_or c).2 (.inl h1))]
      exact Ev.ite_pos (val_eq c 32 h1) (Ev.ite_pos (by omega) (ih hl2))
    · refine Ev.ite_neg (val_ne c 32 h1) ?_
      by_cases h2 : c = 9
      · rw [if_pos ((blank_or c).2 (.inr h2))]
        exact Ev.ite_pos (val_eq c 9 h2) (Ev.ite_pos (by omega) (ih hl2))
      · rw [if_neg (fun h => ((blank_or c).1 h).elim h1 h2)]
        exact Ev.ite_neg (val_ne c 9 h2) (Ev.now _)
/-- Without blanks at the end. -/
def tR (l : Bs) : Bs := (l.reverse.dropWhile blank).reverse
theorem tR_snoc (l : Bs) (c : UInt8) : tR (l ++ [c]) = if blank c = true then tR l else l ++ [c] := by
  unfold tR
  rw [List.reverse_append, List.reverse_singleton, List.singleton_append, List.dropWhile_cons]
  split
  · rfl
  · simp
theorem tR_cons (c : UInt8) (t : Bs) : tR (c :: t) = if tR t = [] ∧ blank c = true then [] else c :: tR t := by
  unfold tR
  rw [List.reverse_cons, List.dropWhile_append]
  by_cases h : (t.reverse.dropWhile blank).isEmpty = true
  · rw [if_pos h]
    have h2 : t.reverse.dropWhile blank = [] := by simpa using h
    rw [h2, List.dropWhile_cons]
    by_cases hb : blank c = true
    · simp [hb]
    · simp [hb]
  · rw [if_neg h]
    have h2 : t.reverse.dropWhile blank ≠ [] := by simpa using h
    rw [List.reverse_append, if_neg (by simp [h2])]
    rfl
theorem tR_skip : ∀ l : Bs, tR (l.dropWhile blank) = (tR l).dropWhile blank
  | [] => rfl
  | c :: t => by
    rw [List.dropWhile_cons, tR_cons]
    by_cases hb : blank c = true
    · rw [if_pos hb, tR_skip t]
      by_cases he : tR t = []
      · rw [if_pos ⟨he, hb⟩, he]
      · rw [if_neg (fun h => he h.1), List.dropWhile_cons, if_pos hb]
    · rw [if_neg hb, if_neg (fun h => hb h.2), List.dropWhile_cons, if_neg hb, tR_cons, if_neg (fun h => hb h.2)]
theorem trimS_eq (l : Bs) : trimS l [32, 9] = tR (l.dropWhile blank) := by rw [tR_skip]; rfl
theorem rtrim_l0 : ∀ (n : Nat) (l : Bs), l.length = n → n < 4611686018427387904 → Ev (fun k => broadsheetref18_Trim.l0 k (B l)) (B (tR l)) := by
  intro n
  induction n with
  | zero =>
    intro l h _
    have : l = [] := List.length_eq_zero_iff.1 h
    subst this
    refine Ev.step (fun k => (show broadsheetref18_Trim.l0 (k + 1) (B []) = _ from by rw [broadsheetref18_Trim.l0])) ?_
    exact Ev.now _
  | succ n ih =>
    intro l h hn
    obtain ⟨t, c, rfl⟩ : ∃ t c, l = t ++ [c] := by
      rcases List.eq_nil_or_concat l with rfl | ⟨t, c, rfl⟩
      · cases h
      · exact ⟨t, c, List.concat_eq_append⟩
    have ht : t.length = n := by rw [List.length_append, List.length_singleton] at h; omega
    refine Ev.step (fun k => (show broadsheetref18_Trim.l0 (k + 1) (B (t ++ [c])) = _ from by rw [broadsheetref18_Trim.l0])) ?_
    have hs : ((B (t ++ [c])).size : Int) = (t.length : Int) + 1 := by rw [B_size]; simp
    have hw : wrap64 (((B (t ++ [c])).size : Int) - 1) = (t.length : Int) := by rw [hs, w64 (by omega) (by omega)]; omega
    rw [hw]
    have hb : bt (B (t ++ [c])) (t.length : Int) = (c.toNat : Int) := by
      rw [bt_val _ _ (by simp)]
      simp
    rw [hb, Int.toNat_natCast, extract_head, List.take_left', tR_snoc]
    · refine Ev.ite_pos (by omega) (Ev.ite_pos (by omega) (Ev.ite_pos (by omega) ?_))
      by_cases h1 : c = 32
      · rw [if_pos ((blank_or c).2 (.inl h1))]
        exact Ev.ite_pos (val_eq c 32 h1) (Ev.ite_pos (by omega) (ih t ht (by omega)))
      · refine Ev.ite_neg (val_ne c 32 h1) ?_
        by_cases h2 : c = 9
        · rw [if_pos ((blank_or c).2 (.inr h2))]
          exact Ev.ite_pos (val_eq c 9 h2) (Ev.ite_pos (by omega) (ih t ht (by omega)))
        · rw [if_neg (fun h => ((blank_or c).1 h).elim h1 h2)]
          exact Ev.ite_neg (val_ne c 9 h2) (Ev.now _)
    · rfl
theorem rtrim_ev (l : Bs) (hl : l.length < 4611686018427387904) : Ev (fun k => broadsheetref18_Trim.f k (B l)) (B (trimS l [32, 9])) := by
  rw [trimS_eq]
  have h := (List.dropWhile_suffix blank (l := l)).length_le
  exact Ev.bind (rskip_ev l hl) (rtrim_l0 _ _ rfl (by omega))
theorem okV_rd (c : UInt8) : (okV c = true) = ((¬ (c.toNat : Int) < 32 ∧ ¬ (c.toNat : Int) = 127) ∨ ((c.toNat : Int) < 32 ∧ (c.toNat : Int) = 9)) := by
  rw [okV_int]
  by_cases h1 : (c.toNat : Int) < 32
  · by_cases h2 : (c.toNat : Int) = 9
    · simp [h1, h2]
    · simp [h1, h2]
  · by_cases h2 : (c.toNat : Int) = 127
    · simp [h2]
    · have : ¬ (c.toNat : Int) = 9 := by omega
      simp [h1, h2, this]
theorem rvalue_l0 (l : Bs) (hl : l.length < 4611686018427387904) : ∀ (d i : Nat), l.length - i ≤ d → i ≤ l.length → Ev (fun k => broadsheetref18_Value.l0 k (B l) (i : Int)) ((l.drop i).all okV && (trimS l [32, 9] == l)) := by
  have fin : ∀ i, ¬ i < l.length → Ev (fun k => broadsheetref18_Value.l0 k (B l) (i : Int)) ((l.drop i).all okV && (trimS l [32, 9] == l)) := by
    intro i h
    refine Ev.step (fun k => (show broadsheetref18_Value.l0 (k + 1) (B l) (i : Int) = _ from by rw [broadsheetref18_Value.l0])) ?_
    rw [List.drop_eq_nil_of_le (by omega)]
    refine Ev.ite_neg (by rw [B_size]; omega) (Ev.bind (rtrim_ev l hl) ?_)
    rw [B_toList, B_toList]
    simpa using Ev.now _
  intro d
  induction d with
  | zero => intro i hd hi; exact fin i (by omega)
  | succ d ih =>
    intro i hd hi
    by_cases h : i < l.length
    · refine Ev.step (fun k => (show broadsheetref18_Value.l0 (k + 1) (B l) (i : Int) = _ from by rw [broadsheetref18_Value.l0])) ?_
      rw [bt_val l i h, wstep i (by omega), all_drop okV l i h]
      refine Ev.ite_pos (by rw [B_size]; omega) (Ev.ite_pos (by omega) ?_)
      have hk := okV_rd l[i]
      have next := ih (i + 1) (by omega) (by omega)
      by_cases h1 : (l[i].toNat : Int) < 32
      · refine Ev.ite_pos h1 ?_
        by_cases h2 : (l[i].toNat : Int) = 9
        · have hok : okV l[i] = true := by rw [hk]; exact .inr ⟨h1, h2⟩
          rw [hok, Bool.true_and]
          exact Ev.ite_pos h2 (Ev.ite_neg (by omega) next)
        · have hok : okV l[i] = false := by
            rw [← Bool.not_eq_true, hk]
            rintro (h | h)
            · exact h.1 h1
            · exact h2 h.2
          rw [hok]
          exact Ev.ite_neg h2 (Ev.now _)
      · refine Ev.ite_neg h1 ?_
        by_cases h2 : (l[i].toNat : Int) = 127
        · have hok : okV l[i] = false := by
            rw [← Bool.not_eq_true, hk]
            rintro (h | h)
            · exact h.2 h2
            · exact h1 h.1
          rw [hok]
          exact Ev.ite_pos h2 (Ev.now _)
        · have hok : okV l[i] = true := by rw [hk]; exact .inl ⟨h1, h2⟩
          rw [hok, Bool.true_and]
          exact Ev.ite_neg h2 next
    · exact fin i h
theorem rvalue_ev (l : Bs) (hl : l.length < 4611686018427387904) : Ev (fun k => broadsheetref18_Value.f k (B l)) (valB l) :=
  rvalue_l0 l hl l.length 0 (by omega) (by omega)
end Go.Proofs.YtodhbldnmepmaaaDoor.F
