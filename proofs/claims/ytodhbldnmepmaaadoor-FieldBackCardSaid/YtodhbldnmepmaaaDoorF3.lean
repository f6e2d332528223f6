/- Plain law of fields: what the reference's small functions come to: tokens, blanks, values, lines, small letters. Plain law of fields: the reference's lines, small letters, and Parse are the program's. Plain law of fields: the reference's Parse is the program's; lists of pairs that are the same; 'awake'; FieldParses. -/
import Derived.Test.YtodhbldnmepmaaaDoorU0
import Derived.Test.YtodhbldnmepmaaaDoorPf4
import Derived.Test.YtodhbldnmepmaaaDoorXExtF
import Derived.Test.YtodhbldnmepmaaaDoorPf5
namespace Go.Proofs.YtodhbldnmepmaaaDoor.F
open Go.RowKit Go.Lib Go.Proofs.YtodhbldnmepmaaaDoorW.PrintWords Go.Proofs.YtodhbldnmepmaaaDoor.X Go.Proofs.YtodhbldnmepmaaaDoor.Pf Go.Proofs.YtodhbldnmepmaaaDoor.U
set_option linter.unusedSimpArgs false
theorem val_ne (c d : UInt8) (h : c ≠ d) : ¬ ((c.toNat : Nat) : Int) = ((d.toNat : Nat) : Int) := fun hh => h (UInt8.toNat_inj.1 (by omega))
theorem val_eq (c d : UInt8) (h : c = d) : ((c.toNat : Nat) : Int) = ((d.toNat : Nat) : Int) := by rw [h]
theorem bt_val (l : Bs) (i : Nat) (h : i < l.length) : bt (B l) (i : Int) = (l[i].toNat : Int) := B_bt l i h
theorem bt_head (c : UInt8) (t : Bs) : bt (B (c :: t)) 0 = (c.toNat : Int) := B_bt (c :: t) 0 (by simp)
theorem extract_tail (l : Bs) (n : Nat) : (B l).extract n (B l).size = B (l.drop n) := by rw [B_extract, B_size, List.take_length]
theorem extract_head (l : Bs) (n : Nat) : (B l).extract 0 n = B (l.take n) := by rw [B_extract, List.drop_zero]
theorem toList_nil (l : Bs) : ((B l).toList = ([] : List UInt8)) ↔ l = [] := by rw [B_toList]
theorem wstep (i : Nat) (h : i < 4611686018427387904) : wrap64 ((i : Int) + 1) = ((i + 1 : Nat) : Int) := by rw [w64 (by omega) (by omega)]; rfl
theorem rtokb (c : UInt8) : Ev (fun k => broadsheetref13_TokenByte.f k (c.toNat : Int)) (tokB c) := by
  have key : ∀ n : Nat, n < 256 → broadsheetref13_TokenByte.f 2 (n : Int) = some (tokB (UInt8.ofNat n)) := by decide +kernel
  have := key c.toNat c.toNat_lt
  rw [UInt8.ofNat_toNat] at this
  exact Ev.of (fun k => broadsheetref13_TokenByte.mono _ k) (k := 2) this
theorem tw_split (p : UInt8 → Bool) (l : Bs) (i : Nat) (hall : ∀ c ∈ l.take i, p c = true) : l.takeWhile p = l.take i ++ (l.drop i).takeWhile p ∧ l.dropWhile p = (l.drop i).dropWhile p := by
  have e : l = l.take i ++ l.drop i := (List.take_append_drop i l).symm
  constructor
  · conv => lhs; rw [e]
    rw [List.takeWhile_append_of_pos hall]
  · conv => lhs; rw [e]
    rw [List.dropWhile_append_of_pos hall]
theorem take_mem (l : Bs) (p : UInt8 → Bool) (i : Nat) (h : i < l.length) (hall : ∀ c ∈ l.take i, p c = true) (hc : p l[i] = true) : ∀ c ∈ l.take (i + 1), p c = true := by
  intro c hm
  rw [List.take_succ_eq_append_getElem h] at hm
  rcases List.mem_append.1 hm with hm | hm
  · exact hall c hm
  · rw [List.mem_singleton.1 hm]; exact hc
theorem rtoken_l0 (l : Bs) (hl : l.length < 4611686018427387904) : ∀ (d i : Nat), l.length - i ≤ d → i ≤ l.length → (∀ c ∈ l.take i, tokB c = true) → Ev (fun k => broadsheetref13_Token.l0 k (B l) (i : Int)) (B (l.takeWhile tokB), B (l.dropWhile tokB)) := by
  have fin : ∀ i, ¬ i < l.length → i ≤ l.length → (∀ c ∈ l.take i, tokB c = true) → Ev (fun k => broadsheetref13_Token.l0 k (B l) (i : Int)) (B (l.takeWhile tokB), B (l.dropWhile tokB)) := by
    intro i h h2 hall
    refine Ev.step (fun k => (show broadsheetref13_Token.l0 (k + 1) (B l) (i : Int) = _ from by rw [broadsheetref13_Token.l0])) ?_
    obtain ⟨e1, e2⟩ := tw_split tokB l i hall
    rw [e1, e2, List.drop_eq_nil_of_le (by omega)]
    refine Ev.ite_neg (by rw [B_size]; omega) (Ev.ite_pos (by omega) (Ev.ite_pos (by rw [B_size]; omega) ?_))
    rw [Int.toNat_natCast, extract_head, extract_tail, List.drop_eq_nil_of_le (by omega)]
    simpa using Ev.now _
  intro d
  induction d with
  | zero => intro i hd hi hall; exact fin i (by omega) hi hall
  | succ d ih =>
    intro i hd hi hall
    by_cases h : i < l.length
    · refine Ev.step (fun k => (show broadsheetref13_Token.l0 (k + 1) (B l) (i : Int) = _ from by rw [broadsheetref13_Token.l0])) ?_
      rw [bt_val l i h, wstep i (by omega)]
      refine Ev.ite_pos (by rw [B_size]; omega) (Ev.ite_pos (by omega) (Ev.bind (rtokb l[i]) ?_))
      cases ht : tokB l[i] with
      | true => exact Ev.ite_pos rfl (ih (i + 1) (by omega) (by omega) (take_mem l tokB i h hall ht))
      | false =>
        refine Ev.ite_neg (by decide) (Ev.ite_pos (by rw [B_size]; omega) ?_)
        obtain ⟨e1, e2⟩ := tw_split tokB l i hall
        obtain ⟨e3, e4⟩ := tw_drop tokB l i h
        rw [ht] at e3 e4
        rw [e1, e2, e3, e4, Int.toNat_natCast, extract_head, extract_tail]
        simpa using Ev.now _
    · exact fin i h hi hall
theorem rtoken_ev (l : Bs) (hl : l.length < 4611686018427387904) : Ev (fun k => broadsheetref13_Token.f k (B l)) (B (l.takeWhile tokB), B (l.dropWhile tokB)) :=
  rtoken_l0 l hl l.length 0 (by omega) (by omega) (by simp)
def blank (c : UInt8) : Bool := ([32, 9] : Bs).contains c
theorem blank_or (c : UInt8) : blank c = true ↔ c = 32 ∨ c = 9 := by simp [blank]
theorem rskip_ev : ∀ (l : Bs), l.length < 4611686018427387904 → Ev (fun k => broadsheetref13_Skip.f k (B l)) (B (l.dropWhile blank)) := by
  intro l
  induction l with
  | nil =>
    intro _
    refine Ev.step (fun k => (show broadsheetref13_Skip.l0 (k + 1) (B []) = _ from by rw [broadsheetref13_Skip.l0])) ?_
    exact Ev.now _
  | cons c t ih =>
    intro hl
    have hl2 : t.length < 4611686018427387904 := by rw [List.length_cons] at hl; omega
    refine Ev.step (fun k => (show broadsheetref13_Skip.l0 (k + 1) (B (c :: t)) = _ from by rw [broadsheetref13_Skip.l0])) ?_
    have hs : ((B (c :: t)).size : Int) = (t.length : Int) + 1 := by rw [B_size]; simp
    rw [bt_head, extract_tail, List.drop_one, List.tail_cons, List.dropWhile_cons]
    refine Ev.ite_pos (by omega) (Ev.ite_pos (by omega) ?_)
    by_cases h1 : c = 32
    · rw [if_pos ((blank_or c).2 (.inl h1))]
      exact Ev.ite_pos (val_eq c 32 h1) (Ev.ite_pos (by omega) (ih hl2))
    · refine Ev.ite_neg (val_ne c 32 h1) ?_
      by_cases h2 : c = 9
      · rw [if_pos ((blank_or c).2 (.inr h2))]
        exact Ev.ite_pos (val_eq c 9 h2) (Ev.ite_pos (by omega) (ih hl2))
      · rw [if_neg (fun h => ((blank_or c).1 h).elim h1 h2)]
        exact Ev.ite_neg (val_ne c 9 h2) (Ev.now _)
/-- Without blanks at the end. -/
def tR (l : Bs) : Bs := (l.reverse.dropWhile blank).reverse
theorem tR_snoc (l : Bs) (c : UInt8) : tR (l ++ [c]) = if blank c = true then tR l else l ++ [c] := by
  unfold tR
  rw [List.reverse_append, List.reverse_singleton, List.singleton_append, List.dropWhile_cons]
  split
  · rfl
  · simp
theorem tR_cons (c : UInt8) (t : Bs) : tR (c :: t) = if tR t = [] ∧ blank c = true then [] else c :: tR t := by
  unfold tR
  rw [List.reverse_cons, List.dropWhile_append]
  by_cases h : (t.reverse.dropWhile blank).isEmpty = true
  · rw [if_pos h]
    have h2 : t.reverse.dropWhile blank = [] := by simpa using h
    rw [h2, List.dropWhile_cons]
    by_cases hb : blank c = true
    · simp [hb]
    · simp [hb]
  · rw [if_neg h]
    have h2 : t.reverse.dropWhile blank ≠ [] := by simpa using h
    rw [List.reverse_append, if_neg (by simp [h2])]
    rfl
theorem tR_skip : ∀ l : Bs, tR (l.dropWhile blank) = (tR l).dropWhile blank
  | [] => rfl
  | c :: t => by
    rw [List.dropWhile_cons, tR_cons]
    by_cases hb : blank c = true
    · rw [if_pos hb, tR_skip t]
      by_cases he : tR t = []
      · rw [if_pos ⟨he, hb⟩, he]
      · rw [if_neg (fun h => he h.1), List.dropWhile_cons, if_pos hb]
    · rw [if_neg hb, if_neg (fun h => hb h.2), List.dropWhile_cons, if_neg hb, tR_cons, if_neg (fun h => hb h.2)]
theorem trimS_eq (l : Bs) : trimS l [32, 9] = tR (l.dropWhile blank) := by rw [tR_skip]; rfl
theorem rtrim_l0 : ∀ (n : Nat) (l : Bs), l.length = n → n < 4611686018427387904 → Ev (fun k => broadsheetref18_Trim.l0 k (B l)) (B (tR l)) := by
  intro n
  induction n with
  | zero =>
    intro l h _
    have : l = [] := List.length_eq_zero_iff.1 h
    subst this
    refine Ev.step (fun k => (show broadsheetref18_Trim.l0 (k + 1) (B []) = _ from by rw [broadsheetref18_Trim.l0])) ?_
    exact Ev.now _
  | succ n ih =>
    intro l h hn
    obtain ⟨t, c, rfl⟩ : ∃ t c, l = t ++ [c] := by
      rcases List.eq_nil_or_concat l with rfl | ⟨t, c, rfl⟩
      · cases h
      · exact ⟨t, c, List.concat_eq_append⟩
    have ht : t.length = n := by rw [List.length_append, List.length_singleton] at h; omega
    refine Ev.step (fun k => (show broadsheetref18_Trim.l0 (k + 1) (B (t ++ [c])) = _ from by rw [broadsheetref18_Trim.l0])) ?_
    have hs : ((B (t ++ [c])).size : Int) = (t.length : Int) + 1 := by rw [B_size]; simp
    have hw : wrap64 (((B (t ++ [c])).size : Int) - 1) = (t.length : Int) := by rw [hs, w64 (by omega) (by omega)]; omega
    rw [hw]
    have hb : bt (B (t ++ [c])) (t.length : Int) = (c.toNat : Int) := by
      rw [bt_val _ _ (by simp)]
      simp
    rw [hb, Int.toNat_natCast, extract_head, List.take_left', tR_snoc]
    · refine Ev.ite_pos (by omega) (Ev.ite_pos (by omega) (Ev.ite_pos (by omega) ?_))
      by_cases h1 : c = 32
      · rw [if_pos ((blank_or c).2 (.inl h1))]
        exact Ev.ite_pos (val_eq c 32 h1) (Ev.ite_pos (by omega) (ih t ht (by omega)))
      · refine Ev.ite_neg (val_ne c 32 h1) ?_
        by_cases h2 : c = 9
        · rw [if_pos ((blank_or c).2 (.inr h2))]
          exact Ev.ite_pos (val_eq c 9 h2) (Ev.ite_pos (by omega) (ih t ht (by omega)))
        · rw [if_neg (fun h => ((blank_or c).1 h).elim h1 h2)]
          exact Ev.ite_neg (val_ne c 9 h2) (Ev.now _)
    · rfl
theorem rtrim_ev (l : Bs) (hl : l.length < 4611686018427387904) : Ev (fun k => broadsheetref18_Trim.f k (B l)) (B (trimS l [32, 9])) := by
  rw [trimS_eq]
  have h := (List.dropWhile_suffix blank (l := l)).length_le
  exact Ev.bind (rskip_ev l hl) (rtrim_l0 _ _ rfl (by omega))
theorem okV_rd (c : UInt8) : (okV c = true) = ((¬ (c.toNat : Int) < 32 ∧ ¬ (c.toNat : Int) = 127) ∨ ((c.toNat : Int) < 32 ∧ (c.toNat : Int) = 9)) := by
  rw [okV_int]
  by_cases h1 : (c.toNat : Int) < 32
  · by_cases h2 : (c.toNat : Int) = 9
    · simp [h1, h2]
    · simp [h1, h2]
  · by_cases h2 : (c.toNat : Int) = 127
    · simp [h2]
    · have : ¬ (c.toNat : Int) = 9 := by omega
      simp [h1, h2, this]
theorem rvalue_l0 (l : Bs) (hl : l.length < 4611686018427387904) : ∀ (d i : Nat), l.length - i ≤ d → i ≤ l.length → Ev (fun k => broadsheetref18_Value.l0 k (B l) (i : Int)) ((l.drop i).all okV && (trimS l [32, 9] == l)) := by
  have fin : ∀ i, ¬ i < l.length → Ev (fun k => broadsheetref18_Value.l0 k (B l) (i : Int)) ((l.drop i).all okV && (trimS l [32, 9] == l)) := by
    intro i h
    refine Ev.step (fun k => (show broadsheetref18_Value.l0 (k + 1) (B l) (i : Int) = _ from by rw [broadsheetref18_Value.l0])) ?_
    rw [List.drop_eq_nil_of_le (by omega)]
    refine Ev.ite_neg (by rw [B_size]; omega) (Ev.bind (rtrim_ev l hl) ?_)
    rw [B_toList, B_toList]
    simpa using Ev.now _
  intro d
  induction d with
  | zero => intro i hd hi; exact fin i (by omega)
  | succ d ih =>
    intro i hd hi
    by_cases h : i < l.length
    · refine Ev.step (fun k => (show broadsheetref18_Value.l0 (k + 1) (B l) (i : Int) = _ from by rw [broadsheetref18_Value.l0])) ?_
      rw [bt_val l i h, wstep i (by omega), all_drop okV l i h]
      refine Ev.ite_pos (by rw [B_size]; omega) (Ev.ite_pos (by omega) ?_)
      have hk := okV_rd l[i]
      have next := ih (i + 1) (by omega) (by omega)
      by_cases h1 : (l[i].toNat : Int) < 32
      · refine Ev.ite_pos h1 ?_
        by_cases h2 : (l[i].toNat : Int) = 9
        · have hok : okV l[i] = true := by rw [hk]; exact .inr ⟨h1, h2⟩
          rw [hok, Bool.true_and]
          exact Ev.ite_pos h2 (Ev.ite_neg (by omega) next)
        · have hok : okV l[i] = false := by
            rw [← Bool.not_eq_true, hk]
            rintro (h | h)
            · exact h.1 h1
            · exact h2 h.2
          rw [hok]
          exact Ev.ite_neg h2 (Ev.now _)
      · refine Ev.ite_neg h1 ?_
        by_cases h2 : (l[i].toNat : Int) = 127
        · have hok : okV l[i] = false := by
            rw [← Bool.not_eq_true, hk]
            rintro (h | h)
            · exact h.2 h2
            · exact h1 h.1
          rw [hok]
          exact Ev.ite_pos h2 (Ev.now _)
        · have hok : okV l[i] = true := by rw [hk]; exact .inl ⟨h1, h2⟩
          rw [hok, Bool.true_and]
          exact Ev.ite_neg h2 next
    · exact fin i h
theorem rvalue_ev (l : Bs) (hl : l.length < 4611686018427387904) : Ev (fun k => broadsheetref18_Value.f k (B l)) (valB l) :=
  rvalue_l0 l hl l.length 0 (by omega) (by omega)
end Go.Proofs.YtodhbldnmepmaaaDoor.F
namespace Go.Proofs.YtodhbldnmepmaaaDoor.F
open Go.RowKit Go.Lib Go.Proofs.YtodhbldnmepmaaaDoorW.PrintWords Go.Proofs.YtodhbldnmepmaaaDoor.X Go.Proofs.YtodhbldnmepmaaaDoor.Pf Go.Proofs.YtodhbldnmepmaaaDoor.U
set_option linter.unusedSimpArgs false
/-! ### the first line -/
def lineI (i : Nat) (o : Option (Bs × Bs)) : Int := match o with | none => -1 | some p => (i : Int) + p.1.length
theorem lineI_cons (i : Nat) (c : UInt8) (t : Bs) (h : ¬ (c = 13 ∧ t.head? = some 10)) : lineI i (lineL (c :: t)) = lineI (i + 1) (lineL t) := by
  rw [lineL, if_neg h]
  cases lineL t with
  | none => rfl
  | some p => show (i : Int) + ((p.1.length + 1 : Nat) : Int) = ((i + 1 : Nat) : Int) + p.1.length; omega
theorem rline_l0 (l : Bs) (hl : l.length < 4611686018427387000) : ∀ (d i : Nat), l.length - i ≤ d → i ≤ l.length → Ev (fun k => broadsheetref18_line.l0 k (B l) (i : Int)) (lineI i (lineL (l.drop i))) := by
  have fin : ∀ i, ¬ i + 1 < l.length → i ≤ l.length → Ev (fun k => broadsheetref18_line.l0 k (B l) (i : Int)) (lineI i (lineL (l.drop i))) := by
    intro i h h2
    refine Ev.step (fun k => (show broadsheetref18_line.l0 (k + 1) (B l) (i : Int) = _ from by rw [broadsheetref18_line.l0])) ?_
    rw [wstep i (by omega)]
    refine Ev.ite_neg (by rw [B_size]; omega) ?_
    have e : lineL (l.drop i) = none := by
      cases hd : l.drop i with
      | nil => rfl
      | cons c t =>
        have : t = [] := by
          have := congrArg List.length hd
          rw [List.length_drop, List.length_cons] at this
          exact List.length_eq_zero_iff.1 (by omega)
        subst this
        rw [lineL, if_neg (fun h => by cases h.2)]
        rfl
    rw [e]
    exact Ev.now _
  intro d
  induction d with
  | zero => intro i hd hi; exact fin i (by omega) hi
  | succ d ih =>
    intro i hd hi
    by_cases h : i + 1 < l.length
    · refine Ev.step (fun k => (show broadsheetref18_line.l0 (k + 1) (B l) (i : Int) = _ from by rw [broadsheetref18_line.l0])) ?_
      rw [wstep i (by omega), bt_val l i (by omega), bt_val l (i + 1) h]
      refine Ev.ite_pos (by rw [B_size]; omega) (Ev.ite_pos (by omega) (Ev.ite_pos (by rw [B_size]; omega) ?_))
      have e1 : l.drop i = l[i] :: l.drop (i + 1) := List.drop_eq_getElem_cons (by omega)
      have e2 : l.drop (i + 1) = l[i + 1] :: l.drop (i + 1 + 1) := List.drop_eq_getElem_cons h
      have next := ih (i + 1) (by omega) (by omega)
      by_cases h1 : l[i] = 13
      · refine Ev.ite_pos (val_eq _ 13 h1) (Ev.ite_pos (by omega) ?_)
        by_cases h2 : l[i + 1] = 10
        · refine Ev.ite_pos (val_eq _ 10 h2) ?_
          rw [e1, lineL, if_pos ⟨h1, by rw [e2, h2]; rfl⟩]
          have : lineI i (some (([] : Bs), (l.drop (i + 1)).tail)) = (i : Int) := by show (i : Int) + ((0 : Nat) : Int) = _; omega
          rw [this]
          exact Ev.now _
        · refine Ev.ite_neg (val_ne _ 10 h2) ?_
          rw [e1, lineI_cons i _ _ (fun hh => h2 (by rw [e2] at hh; exact Option.some.inj hh.2))]
          exact next
      · refine Ev.ite_neg (val_ne _ 13 h1) ?_
        rw [e1, lineI_cons i _ _ (fun hh => h1 hh.1)]
        exact next
    · exact fin i h hi
def lineV (l : Bs) : ByteArray × ByteArray × Bool := match lineL l with | none => (B [], B [], false) | some p => (B p.1, B p.2, true)
theorem rline_ev (l : Bs) (hl : l.length < 4611686018427387000) : Ev (fun k => broadsheetref18_Line.f k (B l)) (lineV l) := by
  unfold broadsheetref18_Line.f
  refine Ev.bind (rline_l0 l hl l.length 0 (by omega) (by omega)) ?_
  rw [List.drop_zero]
  unfold lineV
  cases h : lineL l with
  | none => exact Ev.ite_pos (by decide) (Ev.now _)
  | some p =>
    obtain ⟨a, b⟩ := p
    have e : lineI 0 (some (a, b)) = (a.length : Int) := by show ((0 : Nat) : Int) + (a.length : Int) = _; omega
    have hn := line_len h
    have w2 : wrap64 ((a.length : Int) + 2) = ((a.length + 2 : Nat) : Int) := by rw [w64 (by omega) (by omega)]; rfl
    rw [e, w2]
    refine Ev.ite_neg (by omega) (Ev.ite_pos (by omega) (Ev.ite_pos (by rw [B_size]; omega) (Ev.ite_pos (by omega) (Ev.ite_pos (by rw [B_size]; omega) ?_))))
    rw [Int.toNat_natCast, Int.toNat_natCast, extract_head, extract_tail]
    have e1 : l.take a.length = a := by rw [line_some l h]; exact List.take_left' rfl
    have e2 : l.drop (a.length + 2) = b := by
      rw [line_some l h, show a ++ 13 :: 10 :: b = (a ++ [13, 10]) ++ b by simp]
      exact List.drop_left' (by simp)
    rw [e1, e2]
    exact Ev.now _
/-! ### small letters -/
def numsB (l : Bs) : List Int := l.map fun b => (b.toNat : Int)
theorem numsB_str (l : Bs) : strOfNums (numsB l) = B l := by
  unfold strOfNums numsB B
  rw [List.map_map]
  congr 1
  have : ((fun n : Int => n.toNat.toUInt8) ∘ fun b : UInt8 => (b.toNat : Int)) = id := by
    funext b
    simp
  first
  | (rw [this, List.map_id]; rfl)
  | (rw [this, List.map_id])
  | simp
theorem low_num : ∀ n : Nat, n < 256 → ((lowC (UInt8.ofNat n)).toNat : Int) = if (n : Int) ≥ 65 ∧ (n : Int) ≤ 90 then ((n : Int) + 32) % 256 else n := by decide +kernel
theorem low_val (c : UInt8) : ((lowC c).toNat : Int) = if (c.toNat : Int) ≥ 65 ∧ (c.toNat : Int) ≤ 90 then ((c.toNat : Int) + 32) % 256 else c.toNat := by
  have := low_num c.toNat c.toNat_lt
  rwa [UInt8.ofNat_toNat] at this
theorem rlower_l0 (l : Bs) (hl : l.length < 140737488355328) : ∀ (d i : Nat), l.length - i ≤ d → i ≤ l.length → Ev (fun k => broadsheetref07_Lower.l0 k (B l) (numsB (small (l.take i))) (i : Int)) (B (small l)) := by
  have fin : ∀ i, ¬ i < l.length → Ev (fun k => broadsheetref07_Lower.l0 k (B l) (numsB (small (l.take i))) (i : Int)) (B (small l)) := by
    intro i h
    refine Ev.step (fun k => (show broadsheetref07_Lower.l0 (k + 1) (B l) (numsB (small (l.take i))) (i : Int) = _ from by rw [broadsheetref07_Lower.l0])) ?_
    refine Ev.ite_neg (by rw [B_size]; omega) ?_
    rw [List.take_of_length_le (by omega), numsB_str]
    exact Ev.now _
  intro d
  induction d with
  | zero => intro i hd hi; exact fin i (by omega)
  | succ d ih =>
    intro i hd hi
    by_cases h : i < l.length
    · refine Ev.step (fun k => (show broadsheetref07_Lower.l0 (k + 1) (B l) (numsB (small (l.take i))) (i : Int) = _ from by rw [broadsheetref07_Lower.l0])) ?_
      rw [bt_val l i h, wstep i (by omega)]
      have hn : (numsB (small (l.take i))).length < 140737488355328 := by
        unfold numsB small
        rw [List.length_map, List.length_map, List.length_take]
        omega
      have hs : numsB (small (l.take (i + 1))) = numsB (small (l.take i)) ++ [((lowC l[i]).toNat : Int)] := by
        rw [List.take_succ_eq_append_getElem h]
        unfold numsB small
        rw [List.map_append, List.map_append]
        rfl
      have next := ih (i + 1) (by omega) (by omega)
      rw [hs, low_val] at next
      refine Ev.ite_pos (by rw [B_size]; omega) (Ev.ite_pos (by omega) ?_)
      by_cases h1 : (l[i].toNat : Int) ≥ 65
      · refine Ev.ite_pos h1 ?_
        by_cases h2 : (l[i].toNat : Int) ≤ 90
        · rw [if_pos ⟨h1, h2⟩] at next
          exact Ev.ite_pos h2 (Ev.ite_pos hn next)
        · rw [if_neg (fun h => h2 h.2)] at next
          exact Ev.ite_neg h2 (Ev.ite_pos hn next)
      · rw [if_neg (fun h => h1 h.1)] at next
        exact Ev.ite_neg h1 (Ev.ite_pos hn next)
    · exact fin i h
theorem rlower_ev (l : Bs) (hl : l.length < 140737488355328) : Ev (fun k => broadsheetref07_Lower.f k (B l)) (B (small l)) :=
  rlower_l0 l hl l.length 0 (by omega) (by omega)
end Go.Proofs.YtodhbldnmepmaaaDoor.F
namespace Go.Proofs.YtodhbldnmepmaaaDoor.F
open Go.Proofs.YtodhbldnmepmaaaDoor.T (cut_one)
open Go.RowKit Go.Lib Go.Proofs.YtodhbldnmepmaaaDoorW.PrintWords Go.Proofs.YtodhbldnmepmaaaDoor.X Go.Proofs.YtodhbldnmepmaaaDoor.Pf Go.Proofs.YtodhbldnmepmaaaDoor.U
set_option linter.unusedSimpArgs false
theorem tok58 : tokB 58 = false := by decide
theorem tw_tok (l : Bs) : ∀ c ∈ l.takeWhile tokB, tokB c = true := fun c h => by
  have := List.all_takeWhile (p := tokB) (l := l)
  exact List.all_eq_true.1 this c h
/-- A text that starts with bytes of a token and then a colon. -/
theorem colon_tw (p : UInt8 → Bool) (a b : Bs) (ha : ∀ c ∈ a, p c = true) (h : p 58 = false) : (a ++ 58 :: b).takeWhile p = a ∧ (a ++ 58 :: b).dropWhile p = 58 :: b := by
  rw [List.takeWhile_append_of_pos ha, List.dropWhile_append_of_pos ha, List.takeWhile_cons, List.dropWhile_cons, h]
  simp
theorem tok_self (a : Bs) (ha : ∀ c ∈ a, tokB c = true) (hn : a ≠ []) : fieldTok a = true := by
  unfold fieldTok
  have h1 := List.takeWhile_append_of_pos ha (l₂ := [])
  have h2 := List.dropWhile_append_of_pos ha (l₂ := [])
  simp only [List.append_nil, List.takeWhile_nil, List.dropWhile_nil] at h1 h2
  rw [h1, h2]
  cases a with
  | nil => exact absurd rfl hn
  | cons c t => rfl
theorem tok_all (a : Bs) (h : fieldTok a = true) : (∀ c ∈ a, tokB c = true) ∧ a ≠ [] := by
  unfold fieldTok at h
  rw [Bool.and_eq_true] at h
  have h2 : a.dropWhile tokB = [] := List.isEmpty_iff.1 h.2
  refine ⟨?_, ?_⟩
  · have e := List.takeWhile_append_dropWhile (p := tokB) (l := a)
    rw [h2, List.append_nil] at e
    rw [← e]
    exact tw_tok a
  · rintro rfl
    cases h.1
theorem pair_yes (l u : Bs) (hd : l.dropWhile tokB = 58 :: u) (hn : l.takeWhile tokB ≠ []) : pairV l = (small (l.takeWhile tokB), trimS u [32, 9], valB (trimS u [32, 9])) := by
  have e : l = l.takeWhile tokB ++ 58 :: u := by rw [← hd, List.takeWhile_append_dropWhile]
  have hc : ∀ c ∈ l.takeWhile tokB, (c != 58) = true := fun c hc => by
    rw [bne_iff_ne]
    rintro rfl
    have := tw_tok l 58 hc
    rw [tok58] at this
    cases this
  have hs := tok_self _ (tw_tok l) hn
  generalize l.takeWhile tokB = a at e hc hs
  subst e
  obtain ⟨h1, h2⟩ := colon_tw (· != 58) a u hc rfl
  unfold pairV
  rw [cut_one, h1, h2, if_neg (List.cons_ne_nil _ _)]
  simp only [List.tail_cons, hs, Bool.true_and]
theorem pair_no (l : Bs) (h : l.takeWhile tokB = [] ∨ (l.dropWhile tokB).head? ≠ some 58) : (pairV l).2.2 = false := by
  rw [← Bool.not_eq_true]
  intro hv
  unfold pairV at hv
  rw [Bool.and_eq_true, Bool.and_eq_true] at hv
  obtain ⟨⟨h1, h2⟩, h3⟩ := hv
  rw [cut_one] at h1 h2
  by_cases hd : l.dropWhile (· != 58) = []
  · rw [if_pos hd] at h1
    cases h1
  · rw [if_neg hd] at h2
    obtain ⟨ha, hn⟩ := tok_all _ h2
    have hh : ∃ b, l.dropWhile (· != 58) = 58 :: b := by
      cases hx : l.dropWhile (· != 58) with
      | nil => exact absurd hx hd
      | cons c b =>
        have := List.head_dropWhile_not (p := (· != (58 : UInt8))) (l := l) hd
        simp only [hx, List.head_cons] at this
        have : c = 58 := by simpa using this
        exact ⟨b, by rw [this]⟩
    obtain ⟨b, hb⟩ := hh
    have e : l = l.takeWhile (· != 58) ++ 58 :: b := by rw [← hb, List.takeWhile_append_dropWhile]
    simp only at ha hn
    generalize l.takeWhile (· != 58) = a at e ha hn
    subst e
    obtain ⟨e1, e2⟩ := colon_tw tokB a b ha tok58
    rw [e1, e2] at h
    exact h.elim hn (fun h => h rfl)
theorem dw_len (p : UInt8 → Bool) (l : Bs) : (l.dropWhile p).length ≤ l.length := (List.dropWhile_suffix p).length_le
theorem tw_len (p : UInt8 → Bool) (l : Bs) : (l.takeWhile p).length ≤ l.length := (List.takeWhile_prefix p).length_le
theorem rparse_j2 (s : Bs) (acc : List S49) (b tw dw : Bs) : Ev (fun k => broadsheetref18_Parse.j2 k (B s) acc (B b) (B tw) (B dw) true) (([], ⟨#[]⟩, 180) : PR) := by
  refine Ev.step (fun k => (show broadsheetref18_Parse.j2 (k + 1) (B s) acc (B b) (B tw) (B dw) true = _ from by rw [broadsheetref18_Parse.j2])) ?_
  exact Ev.ite_pos rfl (Ev.now _)
theorem rparse_l0 (s : Bs) (hs : s.length < 1000000000) : ∀ (n : Nat) (cur : Bs) (acc : List S49), cur.length < n → cur.length ≤ s.length → acc.length + cur.length ≤ 1000000000 → Ev (fun k => broadsheetref18_Parse.l0 k (B s) acc (B cur)) (parseG s.length (linesL cur) acc) := by
  intro n
  induction n with
  | zero => intro cur acc h; omega
  | succ n ih =>
    intro cur acc h1 h2 h3
    refine Ev.step (fun k => (show broadsheetref18_Parse.l0 (k + 1) (B s) acc (B cur) = _ from by rw [broadsheetref18_Parse.l0])) ?_
    refine Ev.bind (rline_ev cur (by omega)) ?_
    unfold lineV
    cases h : lineL cur with
    | none =>
      rw [lines_none h]
      refine Ev.ite_neg (by decide) ?_
      refine Ev.step (fun k => (show broadsheetref18_Parse.j1 (k + 1) (B s) acc (B []) (B []) true = _ from by rw [broadsheetref18_Parse.j1])) ?_
      refine Ev.ite_pos rfl ?_
      unfold parseG endP
      by_cases hb : s.length > 8000
      · rw [if_pos hb]; exact Ev.ite_pos (by rw [B_size]; omega) (Ev.now _)
      · rw [if_neg hb]; exact Ev.ite_neg (by rw [B_size]; omega) (Ev.now _)
    | some p =>
      obtain ⟨a, b⟩ := p
      rw [lines_some h]
      have hn := line_len h
      refine Ev.ite_pos rfl ?_
      rw [parseG]
      have hw : wrap64 (((B s).size : Int) - ((B b).size : Int)) = (s.length : Int) - (b.length : Int) := by rw [B_size, B_size, w64 (by omega) (by omega)]
      refine Ev.step (fun k => (show broadsheetref18_Parse.j1 (k + 1) (B s) acc (B a) (B b) (decide (wrap64 (((B s).size : Int) - ((B b).size : Int)) > 8000)) = _ from by rw [broadsheetref18_Parse.j1])) ?_
      rw [hw]
      by_cases hb : s.length - b.length > 8000
      · rw [if_pos hb]
        refine Ev.ite_pos (decide_eq_true (by omega)) ?_
        unfold endP
        rw [if_pos (show s.length > 8000 by omega)]
        exact Ev.ite_pos (by rw [B_size]; omega) (Ev.now _)
      · rw [if_neg hb]
        refine Ev.ite_neg (by rw [decide_eq_true_iff]; omega) ?_
        by_cases ha : a = []
        · rw [if_pos ha]
          exact Ev.ite_pos ((toList_nil a).2 ha) (Ev.now _)
        · rw [if_neg ha]
          refine Ev.ite_neg (fun hh => ha ((toList_nil a).1 hh)) (Ev.bind (rtoken_ev a (by omega)) ?_)
          have hdl := dw_len tokB a
          have htl := tw_len tokB a
          have bad : ((a.takeWhile tokB) = [] ∨ ((a.dropWhile tokB)).head? ≠ some 58) → Ev (fun k => broadsheetref18_Parse.j2 k (B s) acc (B b) (B (a.takeWhile tokB)) (B (a.dropWhile tokB)) true) (if (pairV a).2.2 = false then (([], ⟨#[]⟩, 180) : PR) else parseG s.length (linesL b) (acc ++ [pairS a])) := fun hp => by
            rw [if_pos (pair_no a hp)]
            exact rparse_j2 s acc b _ _
          by_cases ht : a.takeWhile tokB = []
          · exact Ev.ite_pos ((toList_nil _).2 ht) (bad (.inl ht))
          · refine Ev.ite_neg (fun hh => ht ((toList_nil _).1 hh)) ?_
            cases hdw : a.dropWhile tokB with
            | nil =>
              rw [hdw] at bad
              exact Ev.ite_pos ((toList_nil _).2 rfl) (bad (.inr (by simp)))
            | cons c u =>
              rw [hdw] at bad hdl
              rw [List.length_cons] at hdl
              have hsz : ((B (c :: u)).size : Int) = (u.length : Int) + 1 := by rw [B_size]; simp
              refine Ev.ite_neg (fun hh => List.cons_ne_nil _ _ ((toList_nil _).1 hh)) (Ev.ite_pos (by show (0 : Int) < ((B (c :: u)).size : Int); omega) ?_)
              rw [bt_head, extract_tail, List.drop_one, List.tail_cons]
              by_cases hc : c = 58
              · subst hc
                refine Ev.ite_pos (val_eq _ 58 rfl) (Ev.ite_pos (by show (1 : Int) ≤ ((B (58 :: u)).size : Int); omega) ?_)
                have htr := trim_len u [32, 9]
                refine Ev.bind (rtrim_ev u (by omega)) (Ev.bind (rvalue_ev _ (by omega)) ?_)
                have hpy := pair_yes a u hdw ht
                cases hv : valB (trimS u [32, 9]) with
                | false =>
                  rw [if_pos (by rw [hpy]; exact hv)]
                  exact rparse_j2 s acc b _ _
                | true =>
                  rw [if_neg (by rw [hpy]; simp [hv])]
                  refine Ev.step (fun k => (show broadsheetref18_Parse.j2 (k + 1) (B s) acc (B b) (B (a.takeWhile tokB)) (B (58 :: u)) (!true) = _ from by rw [broadsheetref18_Parse.j2])) ?_
                  refine Ev.ite_neg (by decide) (Ev.bind (rlower_ev _ (by omega)) (Ev.ite_pos (by omega) ?_))
                  rw [extract_tail, List.drop_one, List.tail_cons]
                  refine Ev.bind (rtrim_ev u (by omega)) (Ev.ite_pos (by omega) ?_)
                  have hps : pairS a = ⟨B (small (a.takeWhile tokB)), B (trimS u [32, 9])⟩ := by unfold pairS; rw [hpy]; rfl
                  rw [hps]
                  exact ih b _ (by omega) (by omega) (by rw [List.length_append, List.length_singleton]; omega)
              · exact Ev.ite_neg (val_ne c 58 hc) (bad (.inr (fun hh => hc (Option.some.inj hh))))
theorem rparse_ev (s : Bs) (hs : s.length < 1000000000) : Ev (fun k => broadsheetref18_Parse.f k (B s)) (parseV s) :=
  rparse_l0 s hs (s.length + 1) s [] (by omega) (by omega) (by simp; omega)
theorem gparse (s : Bs) (hs : s.length < 1000000000) : field_Parse.f (B s) = some (parseV s) := by
  unfold field_Parse.f
  rw [if_pos (by rw [B_size]; omega)]
  rfl
theorem same49_l0 (l : List S49) (hl : l.length ≤ 4611686018427387904) : ∀ (d i : Nat), l.length - i ≤ d → i ≤ l.length → Ev (fun k => broadsheetref07_SamePairs.l0 k l l (i : Int)) true := by
  have fin : ∀ (i : Nat), ¬ i < l.length → Ev (fun k => broadsheetref07_SamePairs.l0 k l l (i : Int)) true := by
    intro i h
    refine Ev.step (fun k => (show broadsheetref07_SamePairs.l0 (k + 1) l l i = _ from by rw [broadsheetref07_SamePairs.l0])) ?_
    exact Ev.ite_neg (by omega) (Ev.now _)
  intro d
  induction d with
  | zero => intro i hd hi; exact fin i (by omega)
  | succ d ih =>
    intro i hd hi
    by_cases h : i < l.length
    · refine Ev.step (fun k => (show broadsheetref07_SamePairs.l0 (k + 1) l l i = _ from by rw [broadsheetref07_SamePairs.l0])) ?_
      simp only [if_pos (show (i : Int) < (l.length : Int) by omega), if_pos (show (0 : Int) ≤ (i : Int) by omega), beq_self_eq_true, Bool.not_true, Bool.or_self, Bool.false_eq_true, if_false, w64 (x := (i : Int) + 1) (by omega) (by omega)]
      exact ih (i + 1) (by omega) (by omega)
    · exact fin i h
theorem same49_ev (l : List S49) (hl : l.length ≤ 4611686018427387904) : Ev (fun k => broadsheetref07_SamePairs.f k l l) true :=
  Ev.ite_pos rfl (same49_l0 l hl l.length 0 (by omega) (by omega))
theorem parseG_len (n : Nat) : ∀ (r : List (Bs × Bs)) (acc : List S49), (parseG n r acc).1.length ≤ acc.length + r.length
  | [], acc => by unfold parseG endP; split <;> simp
  | x :: r, acc => by
    unfold parseG endP
    split
    · split <;> simp
    · split
      · simp
      · split
        · simp
        · have := parseG_len n r (acc ++ [pairS x.1])
          simp only [List.length_append, List.length_cons, List.length_nil] at this ⊢
          omega
theorem lines_count : ∀ (f : Nat) (s : Bs), (linesN f s).length ≤ s.length
  | 0, s => by simp [linesN]
  | f + 1, s => by
    unfold linesN
    cases h : lineL s with
    | none => simp
    | some p =>
      have h1 := line_len (l := s) (a := p.1) (b := p.2) h
      have h2 := lines_count f p.2
      simp only [List.length_cons]
      omega
theorem parseV_len (s : Bs) : (parseV s).1.length ≤ s.length := by
  have h1 := parseG_len s.length (linesL s) []
  have h2 := lines_count (s.length + 1) s
  unfold parseV
  unfold linesL at h1 ⊢
  simp only [List.length_nil] at h1
  omega
theorem awake18 : Ev (fun k => broadsheetlaw18_awake.f k) true :=
  Ev.of (fun k => broadsheetlaw18_awake.mono k) (k := 60) (by decide +kernel)
end Go.Proofs.YtodhbldnmepmaaaDoor.F
