/- Plain law: a text cut at the first of some bytes; which bytes may be. Plain law: the parts of a text, which text may be a scheme, and which signs may be. Plain law: a path without dots, as the program's own piece by piece. Plain law: dots that are gone are gone. Plain law: the document's path without dots is the program's. Plain law: both Resolves answer the same. Plain law: the document's text of any parts is the program's; what is short. -/
import Derived.Test.YtldancekpigkaaaDoorU0
import Derived.Test.YtldancekpigkaaaDoorXScheme
import Derived.Test.YtldancekpigkaaaDoorPl2
import Derived.Test.YtldancekpigkaaaDoorPl8
import Derived.Lib.Join
import Derived.Test.YtldancekpigkaaaDoorPl9
import Derived.Test.YtldancekpigkaaaDoorXRefF
import Derived.Test.YtldancekpigkaaaDoorXResF
import Derived.Test.YtldancekpigkaaaDoorPl10
import Derived.Test.YtldancekpigkaaaDoorRowData
namespace Go.Proofs.YtldancekpigkaaaDoor.S
open Go.RowKit Go.Lib Go.Proofs.YtldancekpigkaaaDoorW.PrintWords Go.Proofs.YtldancekpigkaaaDoor.X Go.Proofs.YtldancekpigkaaaDoor.Pl Go.Proofs.YtldancekpigkaaaDoor.U
set_option linter.unusedSimpArgs false

theorem val_eq (c d : UInt8) (h : c = d) : ((c.toNat : Nat) : Int) = ((d.toNat : Nat) : Int) := by rw [h]
theorem bt_head (c : UInt8) (t : Bs) : bt (B (c :: t)) 0 = (c.toNat : Int) := B_bt (c :: t) 0 (by simp)
theorem toList_nil (l : Bs) : ((B l).toList = ([] : List UInt8)) ↔ l = [] := by rw [B_toList]
theorem ib_range : ∀ (l : Bs) (c : UInt8), -1 ≤ indexByte l c := by
  intro l c
  induction l with
  | nil => exact Int.le_refl _
  | cons d t ih =>
    unfold indexByte
    split
    · omega
    · split
      · omega
      · omega
theorem ib_contains : ∀ (l : Bs) (c : UInt8), (indexByte l c ≥ 0) ↔ l.contains c = true := by
  intro l c
  induction l with
  | nil => simp [indexByte]
  | cons d t ih =>
    have hr := ib_range t c
    unfold indexByte
    by_cases h : d = c
    · subst h
      simp
    · have h1 : (d == c) = false := beq_eq_false_iff_ne.2 h
      have h2 : (c == d) = false := beq_eq_false_iff_ne.2 (fun e => h e.symm)
      rw [List.contains_cons, h2, Bool.false_or, ← ih]
      simp only [h1, Bool.false_eq_true, if_false]
      by_cases h3 : indexByte t c = -1
      · simp [h3]
      · have h4 : (indexByte t c == -1) = false := beq_eq_false_iff_ne.2 h3
        simp only [h4, Bool.false_eq_true, if_false]
        omega
theorem nat_u8 (c : UInt8) : (c.toNat : Int).toNat.toUInt8 = c := by
  rw [Int.toNat_natCast]
  exact UInt8.ofNat_toNat
theorem ib_f (l : Bs) (c : UInt8) : strings_IndexByte.f (B l) (c.toNat : Int) = some (indexByte l c) := by
  unfold strings_IndexByte.f
  rw [nat_u8]
  rfl

def notIn (set : Bs) (c : UInt8) : Bool := !set.contains c
theorem tw_split (p : UInt8 → Bool) (l : Bs) (i : Nat) (hi : i ≤ l.length) (hall : ∀ c ∈ l.take i, p c = true) (hstop : i < l.length → p (l.getD i 0) = false) : l.takeWhile p = l.take i ∧ l.dropWhile p = l.drop i := by
  have e : l = l.take i ++ l.drop i := (List.take_append_drop i l).symm
  have h1 : (l.drop i).takeWhile p = [] ∧ (l.drop i).dropWhile p = l.drop i := by
    by_cases h : i < l.length
    · rw [List.drop_eq_getElem_cons h]
      have hs := hstop h
      rw [List.getD_eq_getElem?_getD, List.getElem?_eq_getElem h, Option.getD_some] at hs
      rw [List.takeWhile_cons, List.dropWhile_cons, hs]
      exact ⟨rfl, rfl⟩
    · rw [List.drop_eq_nil_of_le (by omega)]
      exact ⟨rfl, rfl⟩
  constructor
  · conv => lhs; rw [e]
    rw [List.takeWhile_append_of_pos hall, h1.1, List.append_nil]
  · conv => lhs; rw [e]
    rw [List.dropWhile_append_of_pos hall, h1.2]
theorem take_mem (l : Bs) (p : UInt8 → Bool) (i : Nat) (h : i < l.length) (hall : ∀ c ∈ l.take i, p c = true) (hc : p l[i] = true) : ∀ c ∈ l.take (i + 1), p c = true := by
  intro c hcm
  rw [List.take_add_one, List.getElem?_eq_getElem h] at hcm
  rcases List.mem_append.1 hcm with hcm | hcm
  · exact hall c hcm
  · simp only [Option.toList_some, List.mem_singleton] at hcm
    rw [hcm]; exact hc
theorem gcut_l0 (set s : Bs) (hs : s.length < 4611686018427387904) : ∀ (d i : Nat), s.length - i ≤ d → i ≤ s.length → (∀ c ∈ s.take i, notIn set c = true) →
    Ev (fun k => locator_cut.l0 k (B s) (B set) (s.length : Int) (i : Int)) (B (s.takeWhile (notIn set)), B (s.dropWhile (notIn set))) := by
  have fin : ∀ (i : Nat), i = s.length → (∀ c ∈ s.take i, notIn set c = true) → Ev (fun k => locator_cut.l0 k (B s) (B set) (s.length : Int) (i : Int)) (B (s.takeWhile (notIn set)), B (s.dropWhile (notIn set))) := by
    intro i hi hall
    obtain ⟨h1, h2⟩ := tw_split (notIn set) s i (by omega) hall (by omega)
    rw [h1, h2, List.take_of_length_le (by omega), List.drop_eq_nil_of_le (by omega)]
    refine Ev.step (fun k => (show locator_cut.l0 (k + 1) (B s) (B set) (s.length : Int) i = _ from by rw [locator_cut.l0])) ?_
    simp only [if_neg (show ¬ (i : Int) < (s.length : Int) by omega)]
    exact Ev.now _
  intro d
  induction d with
  | zero => intro i hd hi hall; exact fin i (by omega) hall
  | succ d ih =>
    intro i hd hi hall
    by_cases h : i < s.length
    · refine Ev.step (fun k => (show locator_cut.l0 (k + 1) (B s) (B set) (s.length : Int) i = _ from by rw [locator_cut.l0])) ?_
      have e1 : wrap64 ((i : Int) + 1) = ((i + 1 : Nat) : Int) := by rw [w64 (by omega) (by omega)]; rfl
      simp only [if_pos (show (i : Int) < (s.length : Int) by omega), if_pos (show (0 : Int) ≤ (i : Int) by omega), if_pos (show (i : Int) < ((B s).size : Int) by rw [B_size]; omega), bt_val s i h, ib_f, Option.bind_some, e1]
      by_cases hc : set.contains s[i] = true
      · obtain ⟨h1, h2⟩ := tw_split (notIn set) s i hi hall (fun _ => by rw [List.getD_eq_getElem?_getD, List.getElem?_eq_getElem h, Option.getD_some]; unfold notIn; rw [hc]; rfl)
        simp only [if_pos ((ib_contains set s[i]).2 hc), if_pos (show (i : Int) ≤ ((B s).size : Int) by rw [B_size]; omega), Int.toNat_natCast, extract_head, extract_tail]
        rw [h1, h2]
        exact Ev.now _
      · simp only [if_neg (show ¬ indexByte set s[i] ≥ 0 from fun hh => hc ((ib_contains set s[i]).1 hh))]
        exact ih (i + 1) (by omega) (by omega) (take_mem s _ i h hall (by unfold notIn; simpa using hc))
    · exact fin i (by omega) hall
theorem gcut_ev (set s : Bs) (hs : s.length < 4611686018427387904) : Ev (fun k => locator_cut.f k (B s) (B set)) (B (s.takeWhile (notIn set)), B (s.dropWhile (notIn set))) :=
  gcut_l0 set s hs s.length 0 (by omega) (by omega) (by simp)
theorem ramong_l0 (c : UInt8) (s : Bs) (hs : s.length < 4611686018427387904) : ∀ (d i : Nat), s.length - i ≤ d → i ≤ s.length → Ev (fun k => broadsheetref12_among.l0 k (c.toNat : Int) (B s) (i : Int)) ((s.drop i).contains c) := by
  have fin : ∀ (i : Nat), i = s.length → Ev (fun k => broadsheetref12_among.l0 k (c.toNat : Int) (B s) (i : Int)) ((s.drop i).contains c) := by
    intro i hi
    rw [List.drop_eq_nil_of_le (by omega)]
    refine Ev.step (fun k => (show broadsheetref12_among.l0 (k + 1) (c.toNat : Int) (B s) i = _ from by rw [broadsheetref12_among.l0])) ?_
    simp only [if_neg (show ¬ (i : Int) < ((B s).size : Int) by rw [B_size]; omega)]
    exact Ev.now _
  intro d
  induction d with
  | zero => intro i hd hi; exact fin i (by omega)
  | succ d ih =>
    intro i hd hi
    by_cases h : i < s.length
    · refine Ev.step (fun k => (show broadsheetref12_among.l0 (k + 1) (c.toNat : Int) (B s) i = _ from by rw [broadsheetref12_among.l0])) ?_
      have e1 : wrap64 ((i : Int) + 1) = ((i + 1 : Nat) : Int) := by rw [w64 (by omega) (by omega)]; rfl
      simp only [if_pos (show (i : Int) < ((B s).size : Int) by rw [B_size]; omega), if_pos (show (0 : Int) ≤ (i : Int) by omega), bt_val s i h, e1]
      rw [List.drop_eq_getElem_cons h, List.contains_cons]
      by_cases hc : s[i] = c
      · rw [hc]
        simp only [if_true, beq_self_eq_true, Bool.true_or]
        exact Ev.now _
      · have hb : (c == s[i]) = false := beq_eq_false_iff_ne.2 (fun e => hc e.symm)
        simp only [if_neg (show ¬ (s[i].toNat : Int) = (c.toNat : Int) from val_ne _ _ hc)]
        rw [hb, Bool.false_or]
        exact ih (i + 1) (by omega) (by omega)
    · exact fin i (by omega)
theorem ramong_ev (c : UInt8) (s : Bs) (hs : s.length < 4611686018427387904) : Ev (fun k => broadsheetref12_among.f k (c.toNat : Int) (B s)) (s.contains c) :=
  ramong_l0 c s hs s.length 0 (by omega) (by omega)
theorem rfirst_l0 (set s : Bs) (hs : s.length < 4611686018427387904) (hset : set.length < 4611686018427387904) : ∀ (d i : Nat), s.length - i ≤ d → i ≤ s.length → (∀ c ∈ s.take i, notIn set c = true) →
    Ev (fun k => broadsheetref12_first.l0 k (B s) (B set) (i : Int)) ((s.takeWhile (notIn set)).length : Int) := by
  have fin : ∀ (i : Nat), i = s.length → (∀ c ∈ s.take i, notIn set c = true) → Ev (fun k => broadsheetref12_first.l0 k (B s) (B set) (i : Int)) ((s.takeWhile (notIn set)).length : Int) := by
    intro i hi hall
    obtain ⟨h1, _⟩ := tw_split (notIn set) s i (by omega) hall (by omega)
    rw [h1, List.length_take, Nat.min_eq_left (by omega)]
    refine Ev.step (fun k => (show broadsheetref12_first.l0 (k + 1) (B s) (B set) i = _ from by rw [broadsheetref12_first.l0])) ?_
    simp only [if_neg (show ¬ (i : Int) < ((B s).size : Int) by rw [B_size]; omega)]
    rw [hi, show ((B s).size : Int) = (s.length : Int) from by rw [B_size]]
    exact Ev.now _
  intro d
  induction d with
  | zero => intro i hd hi hall; exact fin i (by omega) hall
  | succ d ih =>
    intro i hd hi hall
    by_cases h : i < s.length
    · refine Ev.step (fun k => (show broadsheetref12_first.l0 (k + 1) (B s) (B set) i = _ from by rw [broadsheetref12_first.l0])) ?_
      have e1 : wrap64 ((i : Int) + 1) = ((i + 1 : Nat) : Int) := by rw [w64 (by omega) (by omega)]; rfl
      simp only [if_pos (show (i : Int) < ((B s).size : Int) by rw [B_size]; omega), if_pos (show (0 : Int) ≤ (i : Int) by omega), bt_val s i h, e1]
      refine Ev.bind (ramong_ev s[i] set hset) ?_
      by_cases hc : set.contains s[i] = true
      · obtain ⟨h1, _⟩ := tw_split (notIn set) s i hi hall (fun _ => by rw [List.getD_eq_getElem?_getD, List.getElem?_eq_getElem h, Option.getD_some]; unfold notIn; rw [hc]; rfl)
        simp only [if_pos hc]
        rw [h1, List.length_take, Nat.min_eq_left (by omega)]
        exact Ev.now _
      · simp only [if_neg hc]
        exact ih (i + 1) (by omega) (by omega) (take_mem s _ i h hall (by unfold notIn; simpa using hc))
    · exact fin i (by omega) hall
theorem rfirst_ev (set s : Bs) (hs : s.length < 4611686018427387904) (hset : set.length < 4611686018427387904) : Ev (fun k => broadsheetref12_first.f k (B s) (B set)) ((s.takeWhile (notIn set)).length : Int) :=
  rfirst_l0 set s hs hset s.length 0 (by omega) (by omega) (by simp)
theorem dw_head {set l : Bs} {c : UInt8} {t : Bs} (h : l.dropWhile (notIn set) = c :: t) : set.contains c = true := by
  have := List.head?_dropWhile_not (p := notIn set) (l := l)
  rw [h] at this
  simpa [notIn] using this
theorem tw_len (set l : Bs) : (l.takeWhile (notIn set)).length ≤ l.length := (List.takeWhile_prefix _).length_le
theorem dw_len (set l : Bs) : (l.dropWhile (notIn set)).length ≤ l.length := (List.dropWhile_suffix _).length_le
theorem tw_take (set l : Bs) : l.take (l.takeWhile (notIn set)).length = l.takeWhile (notIn set) := by
  have e := List.takeWhile_append_dropWhile (p := notIn set) (l := l)
  generalize l.takeWhile (notIn set) = a at e ⊢
  generalize l.dropWhile (notIn set) = b at e
  subst e
  rw [List.take_left]
theorem tw_drop (set l : Bs) : l.drop (l.takeWhile (notIn set)).length = l.dropWhile (notIn set) := by
  have e := List.takeWhile_append_dropWhile (p := notIn set) (l := l)
  generalize l.takeWhile (notIn set) = a at e ⊢
  generalize l.dropWhile (notIn set) = b at e ⊢
  subst e
  rw [List.drop_left]
theorem tw_sum (set l : Bs) : (l.takeWhile (notIn set)).length + (l.dropWhile (notIn set)).length = l.length := by
  rw [← List.length_append, List.takeWhile_append_dropWhile]
end Go.Proofs.YtldancekpigkaaaDoor.S
namespace Go.Proofs.YtldancekpigkaaaDoor.S
open Go.RowKit Go.Lib Go.Proofs.YtldancekpigkaaaDoorW.PrintWords Go.Proofs.YtldancekpigkaaaDoor.X Go.Proofs.YtldancekpigkaaaDoor.Pl Go.Proofs.YtldancekpigkaaaDoor.U
set_option linter.unusedSimpArgs false

abbrev UriB := ByteArray × ByteArray × ByteArray × ByteArray × ByteArray × Bool × Bool × Bool × Bool
def sp0 (s : Bs) : Bs × Bool × Bs := if (s.dropWhile (notIn [58, 47, 63, 35])).head? = some 58 then (s.takeWhile (notIn [58, 47, 63, 35]), true, (s.dropWhile (notIn [58, 47, 63, 35])).tail) else ([], false, s)
def sp1 (s : Bs) : Bs × Bool × Bs := if hasPrefix s [47, 47] = true then ((s.drop 2).takeWhile (notIn [47, 63, 35]), true, (s.drop 2).dropWhile (notIn [47, 63, 35])) else ([], false, s)
def sp3 (s : Bs) : Bs × Bool × Bs := if s.head? = some 63 then (s.tail.takeWhile (notIn [35]), true, s.tail.dropWhile (notIn [35])) else ([], false, s)
def uriOf (sch host path query frag : Bs) (p q r t : Bool) : UriB := (B sch, B host, B path, B query, B frag, p, q, r, t)
def rest2 (s : Bs) : Bs := (sp1 (sp0 s).2.2).2.2
def rest3 (s : Bs) : Bs := (rest2 s).dropWhile (notIn [63, 35])
def rest4 (s : Bs) : Bs := (sp3 (rest3 s)).2.2
def splitV (s : Bs) : UriB :=
  uriOf (sp0 s).1 (sp1 (sp0 s).2.2).1 ((rest2 s).takeWhile (notIn [63, 35])) (sp3 (rest3 s)).1 (rest4 s).tail (sp0 s).2.1 (sp1 (sp0 s).2.2).2.1 (sp3 (rest3 s)).2.1 (!(rest4 s).isEmpty)

theorem hp_one (l : Bs) (c : UInt8) : hasPrefix l [c] = (l.head? == some c) := by
  cases l with
  | nil => rfl
  | cons d t =>
    show (c == d && true) = (some d == some c)
    rw [Bool.and_true, Bool.eq_iff_iff, beq_iff_eq, beq_iff_eq]
    exact ⟨fun h => by rw [h], fun h => (Option.some.inj h).symm⟩
theorem tp_one (c : UInt8) (t : Bs) : trimPrefix (c :: t) [c] = t := by
  unfold trimPrefix
  rw [hp_one]
  simp
theorem tp_not {l p : Bs} (h : hasPrefix l p = false) : trimPrefix l p = l := by unfold trimPrefix; rw [h]; rfl
theorem sp0_len (s : Bs) : (sp0 s).2.2.length ≤ s.length := by
  unfold sp0
  split
  · have := dw_len [58, 47, 63, 35] s
    simp only [List.length_tail]
    omega
  · exact Nat.le_refl _
theorem sp1_len (s : Bs) : (sp1 s).2.2.length ≤ s.length := by
  unfold sp1
  split
  · have := dw_len [47, 63, 35] (s.drop 2)
    have h2 : (s.drop 2).length ≤ s.length := by rw [List.length_drop]; omega
    simp only
    omega
  · exact Nat.le_refl _
/-- What stands behind a path: nothing, or a question mark, or a hash. -/
theorem rest3_head (s : Bs) : rest3 s = [] ∨ ∃ t, rest3 s = 63 :: t ∨ rest3 s = 35 :: t := by
  unfold rest3
  cases h : (rest2 s).dropWhile (notIn [63, 35]) with
  | nil => exact .inl rfl
  | cons c t =>
    have := dw_head h
    right
    refine ⟨t, ?_⟩
    simp at this
    rcases this with rfl | rfl
    · exact .inl rfl
    · exact .inr rfl
theorem rest4_head (s : Bs) : rest4 s = [] ∨ ∃ t, rest4 s = 35 :: t := by
  unfold rest4 sp3
  rcases rest3_head s with h | ⟨t, h | h⟩
  · rw [h]
    exact .inl rfl
  · rw [h]
    simp only [List.head?_cons, if_true, List.tail_cons]
    cases h2 : t.dropWhile (notIn [35]) with
    | nil => exact .inl rfl
    | cons c u =>
      have := dw_head h2
      simp at this
      subst this
      exact .inr ⟨u, rfl⟩
  · rw [h]
    rw [if_neg (show ¬ (35 :: t : Bs).head? = some 63 by simp)]
    exact .inr ⟨t, rfl⟩
theorem frag_eq {l : Bs} (h : l = [] ∨ ∃ t, l = 35 :: t) : trimPrefix l [35] = l.tail ∧ hasPrefix l [35] = !l.isEmpty := by
  rcases h with rfl | ⟨t, rfl⟩
  · exact ⟨rfl, rfl⟩
  · exact ⟨tp_one 35 t, by rw [hp_one]; simp⟩

theorem gj1 (s2 sch host : Bs) (p q : Bool) (hs : s2.length < 4611686018427387904) (s : Bs) (h2 : rest2 s = s2) :
    Ev (fun k => locator_split.j1 k (B s2) (B sch) (B host) (⟨#[]⟩ : ByteArray) (⟨#[]⟩ : ByteArray) (⟨#[]⟩ : ByteArray) p q false false)
      (uriOf sch host (s2.takeWhile (notIn [63, 35])) (sp3 (rest3 s)).1 (rest4 s).tail p q (sp3 (rest3 s)).2.1 (!(rest4 s).isEmpty)) := by
  have e0 : (⟨#[63, 35]⟩ : ByteArray) = B [63, 35] := rfl
  have e1 : (⟨#[35]⟩ : ByteArray) = B [35] := rfl
  have ee : (⟨#[]⟩ : ByteArray) = B [] := rfl
  refine Ev.step (fun k => (show locator_split.j1 (k + 1) (B s2) (B sch) (B host) _ _ _ p q false false = _ from by rw [locator_split.j1])) ?_
  rw [e0, e1, ee]
  refine Ev.bind (gcut_ev [63, 35] s2 hs) ?_
  have hr3 : s2.dropWhile (notIn [63, 35]) = rest3 s := by unfold rest3; rw [h2]
  simp only [hr3]
  have hf := frag_eq (rest4_head s)
  have hl3 : (rest3 s).length ≤ s2.length := by rw [← hr3]; exact dw_len _ _
  have hc : ∀ l p : Bs, strings_CutPrefix.f (B l) (B p) = some (B (trimPrefix l p), hasPrefix l p) := fun l p => rfl
  have e2 : (⟨#[63]⟩ : ByteArray) = B [63] := rfl
  simp only [e2, hc, Option.bind_some]
  by_cases h63 : (rest3 s).head? = some 63
  · have hp : hasPrefix (rest3 s) [63] = true := by rw [hp_one, h63]; rfl
    have ht : trimPrefix (rest3 s) [63] = (rest3 s).tail := by
      cases hr : rest3 s with
      | nil => rw [hr] at h63; cases h63
      | cons c t => rw [hr] at h63; cases h63; exact tp_one 63 t
    simp only [if_pos hp, ht]
    refine Ev.bind (gcut_ev [35] (rest3 s).tail (by rw [List.length_tail]; omega)) ?_
    have hr4 : (rest3 s).tail.dropWhile (notIn [35]) = rest4 s := by unfold rest4 sp3; rw [if_pos h63]
    simp only [hr4, hc, Option.bind_some, hf.1, hf.2]
    unfold sp3
    rw [if_pos h63]
    exact Ev.now _
  · have hp : hasPrefix (rest3 s) [63] = false := by rw [hp_one]; exact beq_eq_false_iff_ne.2 h63
    have hr4 : rest3 s = rest4 s := by unfold rest4 sp3; rw [if_neg h63]
    simp only [hp, Bool.false_eq_true, if_false]
    rw [hr4]
    simp only [hf.1, hf.2]
    have h63' : ¬ (rest4 s).head? = some 63 := by rw [← hr4]; exact h63
    unfold sp3
    rw [if_neg h63']
    exact Ev.now _
theorem gj0 (s1 sch : Bs) (p : Bool) (hs : s1.length < 4611686018427387904) (s : Bs) (h1 : (sp0 s).2.2 = s1) :
    Ev (fun k => locator_split.j0 k (B s1) (B sch) (⟨#[]⟩ : ByteArray) (⟨#[]⟩ : ByteArray) (⟨#[]⟩ : ByteArray) (⟨#[]⟩ : ByteArray) p false false false)
      (uriOf sch (sp1 s1).1 ((rest2 s).takeWhile (notIn [63, 35])) (sp3 (rest3 s)).1 (rest4 s).tail p (sp1 s1).2.1 (sp3 (rest3 s)).2.1 (!(rest4 s).isEmpty)) := by
  have e0 : (⟨#[47, 47]⟩ : ByteArray) = B [47, 47] := rfl
  have e1 : (⟨#[47, 63, 35]⟩ : ByteArray) = B [47, 63, 35] := rfl
  have ee : (⟨#[]⟩ : ByteArray) = B [] := rfl
  have hc : ∀ l p : Bs, strings_CutPrefix.f (B l) (B p) = some (B (trimPrefix l p), hasPrefix l p) := fun l p => rfl
  refine Ev.step (fun k => (show locator_split.j0 (k + 1) (B s1) (B sch) _ _ _ _ p false false false = _ from by rw [locator_split.j0])) ?_
  have hl := sp1_len s1
  have hr2 : rest2 s = (sp1 s1).2.2 := by unfold rest2; rw [h1]
  simp only [e0, e1, hc, Option.bind_some]
  by_cases h : hasPrefix s1 [47, 47] = true
  · have ht : trimPrefix s1 [47, 47] = s1.drop 2 := by unfold trimPrefix; rw [h]; rfl
    simp only [if_pos h, ht]
    refine Ev.bind (gcut_ev [47, 63, 35] (s1.drop 2) (by rw [List.length_drop]; omega)) ?_
    have q1 : (s1.drop 2).dropWhile (notIn [47, 63, 35]) = rest2 s := by rw [hr2]; unfold sp1; rw [if_pos h]
    have q2 : (sp1 s1).1 = (s1.drop 2).takeWhile (notIn [47, 63, 35]) ∧ (sp1 s1).2.1 = true := by unfold sp1; rw [if_pos h]; exact ⟨rfl, rfl⟩
    simp only [q1]
    rw [q2.1, q2.2]
    exact gj1 (rest2 s) sch _ p true (by rw [hr2]; omega) s rfl
  · have h' : hasPrefix s1 [47, 47] = false := by simpa using h
    simp only [h', Bool.false_eq_true, if_false]
    have q1 : s1 = rest2 s := by rw [hr2]; unfold sp1; rw [if_neg h]
    have q2 : (sp1 s1).1 = [] ∧ (sp1 s1).2.1 = false := by unfold sp1; rw [if_neg h]; exact ⟨rfl, rfl⟩
    rw [q2.1, q2.2, ← q1]
    exact gj1 s1 sch [] p false hs s q1.symm
theorem gsplit_ev (s : Bs) (hs : s.length < 4611686018427387904) : Ev (fun k => locator_split.f k (B s)) (splitV s) := by
  unfold locator_split.f
  have e0 : (⟨#[58, 47, 63, 35]⟩ : ByteArray) = B [58, 47, 63, 35] := rfl
  have e1 : (⟨#[58]⟩ : ByteArray) = B [58] := rfl
  have hc : ∀ l p : Bs, strings_HasPrefix.f (B l) (B p) = some (hasPrefix l p) := fun l p => rfl
  rw [e0, e1]
  refine Ev.bind (gcut_ev [58, 47, 63, 35] s hs) ?_
  simp only [hc, Option.bind_some]
  have hl := sp0_len s
  by_cases h : (s.dropWhile (notIn [58, 47, 63, 35])).head? = some 58
  · have hp : hasPrefix (s.dropWhile (notIn [58, 47, 63, 35])) [58] = true := by rw [hp_one, h]; rfl
    have q1 : (sp0 s).1 = s.takeWhile (notIn [58, 47, 63, 35]) ∧ (sp0 s).2.1 = true ∧ (sp0 s).2.2 = (s.dropWhile (notIn [58, 47, 63, 35])).tail := by unfold sp0; rw [if_pos h]; exact ⟨rfl, rfl, rfl⟩
    have hsz : (1 : Int) ≤ ((B (s.dropWhile (notIn [58, 47, 63, 35]))).size : Int) := by
      rw [B_size]
      cases hr : s.dropWhile (notIn [58, 47, 63, 35]) with
      | nil => rw [hr] at h; cases h
      | cons c t => simp only [List.length_cons]; omega
    simp only [if_pos hp, if_pos hsz, extract_tail, List.drop_one]
    unfold splitV
    rw [q1.1, q1.2.1, q1.2.2]
    exact gj0 _ _ true (by rw [← q1.2.2]; omega) s q1.2.2
  · have hp : hasPrefix (s.dropWhile (notIn [58, 47, 63, 35])) [58] = false := by rw [hp_one]; exact beq_eq_false_iff_ne.2 h
    have q1 : (sp0 s).1 = [] ∧ (sp0 s).2.1 = false ∧ (sp0 s).2.2 = s := by unfold sp0; rw [if_neg h]; exact ⟨rfl, rfl, rfl⟩
    simp only [hp, Bool.false_eq_true, if_false]
    unfold splitV
    rw [q1.1, q1.2.1, q1.2.2]
    exact gj0 s [] false hs s q1.2.2
end Go.Proofs.YtldancekpigkaaaDoor.S
namespace Go.Proofs.YtldancekpigkaaaDoor.S
open Go.RowKit Go.Lib Go.Proofs.YtldancekpigkaaaDoorW.PrintWords Go.Proofs.YtldancekpigkaaaDoor.X Go.Proofs.YtldancekpigkaaaDoor.Pl Go.Proofs.YtldancekpigkaaaDoor.U
set_option linter.unusedSimpArgs false

/-- The first piece: the first byte, and all up to the next slash. -/
def pc : Bs → Bs
  | [] => []
  | c :: t => c :: t.takeWhile (notIn [47])
/-- What stands behind it. -/
def rs (s : Bs) : Bs := s.tail.dropWhile (notIn [47])
theorem pc_rs : ∀ s : Bs, pc s ++ rs s = s
  | [] => rfl
  | c :: t => by show c :: (t.takeWhile _ ++ t.dropWhile _) = _; rw [List.takeWhile_append_dropWhile]
theorem rs_len {s : Bs} (h : s ≠ []) : (rs s).length < s.length := by
  cases s with
  | nil => exact absurd rfl h
  | cons c t => have := dw_len [47] t; show (t.dropWhile _).length < t.length + 1; omega
theorem trim_len (s : Bs) : (trimPrefix s [47]).length ≤ s.length := by
  unfold trimPrefix; split
  · simp
  · exact Nat.le_refl _
theorem rs_head (s : Bs) : rs s = [] ∨ ∃ t, rs s = 47 :: t := by
  unfold rs
  cases h : s.tail.dropWhile (notIn [47]) with
  | nil => exact .inl rfl
  | cons c t =>
    have := dw_head h
    simp at this
    exact .inr ⟨t, by rw [this]⟩

def dotsL (s : Bs) (out : List Bs) : List Bs :=
  if h : s = [] then out
  else if pc s = [47, 46] then (if rs s = [] then out ++ [[47]] else dotsL (rs s) out)
  else if pc s = [47, 46, 46] then (if rs s = [] then out.dropLast ++ [[47]] else dotsL (rs s) out.dropLast)
  else if pc s = [46] then dotsL (trimPrefix (rs s) [47]) out
  else if pc s = [46, 46] then dotsL (trimPrefix (rs s) [47]) out
  else dotsL (rs s) (out ++ [pc s])
termination_by s.length
decreasing_by
  all_goals (have := rs_len h; have := trim_len (rs s); omega)

theorem join_empty (l : List Bs) : Lib.join l [] = l.flatten := by
  cases l with
  | nil => rfl
  | cons x r => rw [Lib.join_cons]; simp [Lib.joinTail]
theorem join_f (l : List Bs) (h : l.flatten.length ≤ 140737488355328) (h2 : l.length ≤ 140737488355328) : strings_Join.f (l.map B) (B []) = some (B l.flatten) := by
  have e : ((l.map B).map (·.data.toList)) = l := by rw [List.map_map]; exact (List.map_congr_left (fun x _ => B_data x)).trans (List.map_id l)
  unfold strings_Join.f
  rw [e, B_data, join_empty, if_pos ⟨h, by simpa using h2⟩]
  rfl
theorem gpiece_ev (s : Bs) (h : s ≠ []) (hs : s.length < 4611686018427387904) : Ev (fun k => locator_piece.f k (B s)) (B (pc s), B (rs s)) := by
  cases s with
  | nil => exact absurd rfl h
  | cons c t =>
    have hl : t.length < 4611686018427387904 := by simp at hs; omega
    have hw := tw_len [47] t
    simp only [locator_piece.f]
    refine Ev.ite_pos (by rw [B_size]; simp; omega) ?_
    have e1 : (B (c :: t)).extract 1 (B (c :: t)).size = B t := by
      rw [B_extract, B_size, List.take_of_length_le (Nat.le_refl _)]; rfl
    rw [e1]
    refine Ev.bind (gcut_ev [47] t hl) ?_
    have e2 : wrap64 (((B (t.takeWhile (notIn [47]))).size : Int) + 1) = (((t.takeWhile (notIn [47])).length + 1 : Nat) : Int) := by
      rw [B_size, w64 (by omega) (by omega)]; rfl
    simp only [e2]
    refine Ev.ite_pos (by omega) (Ev.ite_pos (by rw [B_size]; simp; omega) ?_)
    have e3 : (B (c :: t)).extract 0 ((((t.takeWhile (notIn [47])).length + 1 : Nat) : Int)).toNat = B (pc (c :: t)) := by
      rw [B_extract, Int.toNat_natCast, List.drop_zero, List.take_succ_cons, tw_take]; rfl
    rw [e3]
    exact Ev.now _
theorem B_ne (a b : Bs) (h : a ≠ b) : ¬ (B a).toList = b := by rw [B_toList]; exact h
theorem map_dropLast (out : List Bs) : (out.map B).take (out.length - 1) = (out.dropLast).map B := by
  rw [List.dropLast_eq_take, List.map_take]
theorem dropLast_flat (out : List Bs) : out.dropLast.flatten.length ≤ out.flatten.length := by
  rw [List.dropLast_eq_take]
  conv => rhs; rw [← List.take_append_drop (out.length - 1) out, List.flatten_append, List.length_append]
  omega
theorem flat_snoc (out : List Bs) (p : Bs) : (out ++ [p]).flatten.length = out.flatten.length + p.length := by
  rw [List.flatten_append, List.length_append]; simp
theorem gdots_l0 : ∀ (n : Nat) (s : Bs) (out : List Bs), s.length ≤ n → s.length + out.length < 1000000 → s.length + out.flatten.length < 1000000 → Ev (fun k => locator_Dots.l0 k (B s) (out.map B)) (B (dotsL s out).flatten) := by
  intro n
  induction n with
  | zero =>
    intro s out h h1 h2
    have : s = [] := List.length_eq_zero_iff.1 (by omega)
    subst this
    refine Ev.step (fun k => (show locator_Dots.l0 (k + 1) (B []) (out.map B) = _ from by rw [locator_Dots.l0])) ?_
    refine Ev.ite_pos (B_toList []) ?_
    rw [show (ByteArray.mk #[]) = B [] from rfl, join_f out (by omega) (by omega), dotsL, dif_pos rfl]
    exact Ev.now _
  | succ n ih =>
    intro s out h h1 h2
    by_cases hs : s = []
    · subst hs
      refine Ev.step (fun k => (show locator_Dots.l0 (k + 1) (B []) (out.map B) = _ from by rw [locator_Dots.l0])) ?_
      refine Ev.ite_pos (B_toList []) ?_
      rw [show (ByteArray.mk #[]) = B [] from rfl, join_f out (by omega) (by omega), dotsL, dif_pos rfl]
      exact Ev.now _
    · have hr := rs_len hs
      have ht := trim_len (rs s)
      have hsum : (pc s).length + (rs s).length = s.length := by rw [← List.length_append, pc_rs]
      have hm : (out.map B).length = out.length := List.length_map _
      have hcap : (out.map B).length < 8796093022208 := by omega
      have htl : strings_TrimPrefix.f (B (rs s)) (ByteArray.mk #[47]) = some (B (trimPrefix (rs s) [47])) := rfl
      rw [dotsL, dif_neg hs]
      refine Ev.step (fun k => (show locator_Dots.l0 (k + 1) (B s) (out.map B) = _ from by rw [locator_Dots.l0])) ?_
      refine Ev.ite_neg (B_ne s [] hs) (Ev.bind (gpiece_ev s hs (by omega)) ?_)
      by_cases c1 : pc s = [47, 46]
      · rw [if_pos c1]
        refine Ev.ite_pos (by rw [B_toList]; exact c1) ?_
        have hp2 : (pc s).length = 2 := by rw [c1]; rfl
        by_cases c2 : rs s = []
        · rw [if_pos c2]
          refine Ev.ite_pos (by rw [B_toList]; exact c2) (Ev.ite_pos hcap ?_)
          have := ih (rs s) (out ++ [[47]]) (by omega) (by simp; omega) (by rw [flat_snoc, List.length_singleton]; omega)
          rw [List.map_append] at this
          rw [c2] at this ⊢
          rwa [dotsL, dif_pos rfl] at this
        · rw [if_neg c2]
          exact Ev.ite_neg (B_ne _ _ c2) (ih (rs s) out (by omega) (by omega) (by omega))
      · rw [if_neg c1]
        refine Ev.ite_neg (B_ne _ _ c1) ?_
        by_cases c3 : pc s = [47, 46, 46]
        · rw [if_pos c3]
          have hp2 : (pc s).length = 3 := by rw [c3]; rfl
          have hd := dropLast_flat out
          have hdl : out.dropLast.length = out.length - 1 := List.length_dropLast
          have em : mx 0 (wrap64 (((out.map B).length : Int) - 1)) = ((out.length - 1 : Nat) : Int) := by
            rw [hm, w64 (by omega) (by omega)]; unfold mx; split <;> omega
          refine Ev.ite_pos (by rw [B_toList]; exact c3) ?_
          rw [em]
          refine Ev.ite_pos (by omega) (Ev.ite_pos (by rw [hm]; omega) ?_)
          rw [Int.toNat_natCast, map_dropLast]
          refine Ev.some_bind ?_
          by_cases c2 : rs s = []
          · rw [if_pos c2]
            refine Ev.ite_pos (by rw [B_toList]; exact c2) (Ev.ite_pos (by rw [List.length_map]; omega) ?_)
            have := ih (rs s) (out.dropLast ++ [[47]]) (by omega) (by simp; omega) (by rw [flat_snoc, List.length_singleton]; omega)
            rw [List.map_append] at this
            rw [c2] at this ⊢
            rwa [dotsL, dif_pos rfl] at this
          · rw [if_neg c2]
            exact Ev.ite_neg (B_ne _ _ c2) (ih (rs s) out.dropLast (by omega) (by omega) (by omega))
        · rw [if_neg c3]
          refine Ev.ite_neg (B_ne _ _ c3) ?_
          by_cases c4 : pc s = [46]
          · rw [if_pos c4]
            refine Ev.ite_pos (by rw [B_toList]; exact c4) ?_
            rw [htl]
            exact Ev.some_bind (ih _ out (by omega) (by omega) (by omega))
          · rw [if_neg c4]
            refine Ev.ite_neg (B_ne _ _ c4) ?_
            by_cases c5 : pc s = [46, 46]
            · rw [if_pos c5]
              refine Ev.ite_pos (by rw [B_toList]; exact c5) ?_
              rw [htl]
              exact Ev.some_bind (ih _ out (by omega) (by omega) (by omega))
            · rw [if_neg c5]
              refine Ev.ite_neg (B_ne _ _ c5) (Ev.ite_pos hcap ?_)
              have hpp : 1 ≤ (pc s).length := by cases s with | nil => exact absurd rfl hs | cons c t => simp [pc]
              have := ih (rs s) (out ++ [pc s]) (by omega) (by simp; omega) (by rw [flat_snoc]; omega)
              rwa [List.map_append] at this
theorem gdots_ev (s : Bs) (hs : s.length < 1000000) : Ev (fun k => locator_Dots.f k (B s)) (B (dotsL s []).flatten) :=
  gdots_l0 s.length s [] (Nat.le_refl _) (by simpa using hs) (by simpa using hs)
end Go.Proofs.YtldancekpigkaaaDoor.S
namespace Go.Proofs.YtldancekpigkaaaDoor.S
open Go.RowKit Go.Lib Go.Proofs.YtldancekpigkaaaDoorW.PrintWords Go.Proofs.YtldancekpigkaaaDoor.X Go.Proofs.YtldancekpigkaaaDoor.Pl Go.Proofs.YtldancekpigkaaaDoor.U
set_option linter.unusedSimpArgs false

/-- A piece that stays. -/
structure OkPc (p : Bs) : Prop where
  d1 : p ≠ [47, 46]
  d2 : p ≠ [47, 46, 46]
  d3 : p ≠ [46]
  d4 : p ≠ [46, 46]
  shape : ∃ c t, p = c :: t ∧ ∀ x ∈ t, notIn [47] x = true
structure Good (r : List Bs) : Prop where
  ok : ∀ p ∈ r, OkPc p
  tl : ∀ p ∈ r.tail, p.head? = some 47
theorem Good.nil : Good [] := ⟨by simp, by simp⟩
theorem Good.snoc {r : List Bs} {p : Bs} (h : Good r) (hp : OkPc p) (hh : r ≠ [] → p.head? = some 47) : Good (r ++ [p]) := by
  refine ⟨?_, ?_⟩
  · intro q hq
    rcases List.mem_append.1 hq with h1 | h1
    · exact h.ok q h1
    · rw [List.mem_singleton.1 h1]; exact hp
  · intro q hq
    cases r with
    | nil => simp at hq
    | cons a r' =>
      rw [List.cons_append, List.tail_cons] at hq
      rcases List.mem_append.1 hq with h1 | h1
      · exact h.tl q h1
      · rw [List.mem_singleton.1 h1]; exact hh (by simp)
theorem Good.drop {r : List Bs} (h : Good r) : Good r.dropLast := by
  refine ⟨fun p hp => h.ok p (List.dropLast_subset r hp), fun p hp => h.tl p ?_⟩
  cases r with
  | nil => simp at hp
  | cons a r' =>
    cases r' with
    | nil => simp at hp
    | cons b r'' =>
      rw [List.dropLast_cons_cons, List.tail_cons] at hp
      exact List.dropLast_subset _ hp
theorem ok_slash : OkPc [47] := ⟨by decide, by decide, by decide, by decide, 47, [], rfl, by simp⟩
theorem pc_tail (t : Bs) : ∀ x ∈ t.takeWhile (notIn [47]), notIn [47] x = true := by
  intro x hx
  induction t with
  | nil => simp at hx
  | cons a t ih =>
    rw [List.takeWhile_cons] at hx
    split at hx
    · rename_i ha
      rcases List.mem_cons.1 hx with h | h
      · rw [h]; exact ha
      · exact ih h
    · simp at hx
theorem pc_head {s : Bs} : (pc s).head? = s.head? := by cases s <;> rfl
theorem dots_good : ∀ (n : Nat) (s : Bs) (out : List Bs), s.length ≤ n → Good out → (out ≠ [] → s = [] ∨ s.head? = some 47) → Good (dotsL s out) ∧ (dotsL s out).flatten.length ≤ out.flatten.length + s.length := by
  intro n
  induction n with
  | zero =>
    intro s out h hg _
    have : s = [] := List.length_eq_zero_iff.1 (by omega)
    subst this
    rw [dotsL, dif_pos rfl]
    exact ⟨hg, by omega⟩
  | succ n ih =>
    intro s out h hg hh
    by_cases hs : s = []
    · subst hs
      rw [dotsL, dif_pos rfl]
      exact ⟨hg, by omega⟩
    · have hr := rs_len hs
      have ht := trim_len (rs s)
      have hsum : (pc s).length + (rs s).length = s.length := by rw [← List.length_append, pc_rs]
      have hrs : ∀ o : List Bs, o ≠ [] → rs s = [] ∨ (rs s).head? = some 47 := by
        intro o _
        rcases rs_head s with h1 | ⟨t, h1⟩
        · exact .inl h1
        · rw [h1]; exact .inr rfl
      rw [dotsL, dif_neg hs]
      by_cases c1 : pc s = [47, 46]
      · rw [if_pos c1]
        have hp2 : (pc s).length = 2 := by rw [c1]; rfl
        by_cases c2 : rs s = []
        · rw [if_pos c2]
          exact ⟨hg.snoc ok_slash (fun _ => rfl), by rw [flat_snoc, List.length_singleton]; omega⟩
        · rw [if_neg c2]
          obtain ⟨g1, g2⟩ := ih (rs s) out (by omega) hg (hrs out)
          exact ⟨g1, by omega⟩
      · rw [if_neg c1]
        by_cases c3 : pc s = [47, 46, 46]
        · rw [if_pos c3]
          have hp2 : (pc s).length = 3 := by rw [c3]; rfl
          have hd := dropLast_flat out
          by_cases c2 : rs s = []
          · rw [if_pos c2]
            exact ⟨hg.drop.snoc ok_slash (fun _ => rfl), by rw [flat_snoc, List.length_singleton]; omega⟩
          · rw [if_neg c2]
            obtain ⟨g1, g2⟩ := ih (rs s) out.dropLast (by omega) hg.drop (hrs _)
            exact ⟨g1, by omega⟩
        · rw [if_neg c3]
          by_cases c4 : pc s = [46]
          · rw [if_pos c4]
            have ho : out = [] := by
              apply Classical.byContradiction
              intro hn
              rcases hh hn with h1 | h1
              · exact hs h1
              · rw [← pc_head, c4] at h1; exact absurd h1 (by decide)
            obtain ⟨g1, g2⟩ := ih (trimPrefix (rs s) [47]) out (by omega) hg (fun hn => absurd ho hn)
            exact ⟨g1, by omega⟩
          · rw [if_neg c4]
            by_cases c5 : pc s = [46, 46]
            · rw [if_pos c5]
              have ho : out = [] := by
                apply Classical.byContradiction
                intro hn
                rcases hh hn with h1 | h1
                · exact hs h1
                · rw [← pc_head, c5] at h1; exact absurd h1 (by decide)
              obtain ⟨g1, g2⟩ := ih (trimPrefix (rs s) [47]) out (by omega) hg (fun hn => absurd ho hn)
              exact ⟨g1, by omega⟩
            · rw [if_neg c5]
              have hok : OkPc (pc s) := by
                refine ⟨c1, c3, c4, c5, ?_⟩
                cases s with
                | nil => exact absurd rfl hs
                | cons c t => exact ⟨c, _, rfl, pc_tail t⟩
              have hn : out ≠ [] → (pc s).head? = some 47 := by
                intro hn
                rw [pc_head]
                rcases hh hn with h1 | h1
                · exact absurd h1 hs
                · exact h1
              obtain ⟨g1, g2⟩ := ih (rs s) (out ++ [pc s]) (by omega) (hg.snoc hok hn) (hrs _)
              rw [flat_snoc] at g2
              exact ⟨g1, by omega⟩
theorem flat_head {r : List Bs} (h : ∀ p ∈ r, p.head? = some 47) : r.flatten = [] ∨ ∃ t, r.flatten = 47 :: t := by
  cases r with
  | nil => exact .inl rfl
  | cons p r' =>
    have := h p (by simp)
    cases p with
    | nil => simp at this
    | cons c t =>
      have hc : c = 47 := by simpa using this
      subst hc
      exact .inr ⟨t ++ r'.flatten, rfl⟩
theorem tw_all {t l : Bs} (h : ∀ x ∈ t, notIn [47] x = true) (hl : l = [] ∨ ∃ u, l = 47 :: u) : (t ++ l).takeWhile (notIn [47]) = t ∧ (t ++ l).dropWhile (notIn [47]) = l := by
  rw [List.takeWhile_append_of_pos h, List.dropWhile_append_of_pos h]
  rcases hl with rfl | ⟨u, rfl⟩
  · simp
  · have h47 : notIn [47] 47 = false := by decide
    rw [List.takeWhile_cons, List.dropWhile_cons, h47]
    simp
theorem good_cons {p : Bs} {r : List Bs} (h : Good (p :: r)) : OkPc p ∧ (r.flatten = [] ∨ ∃ t, r.flatten = 47 :: t) ∧ Good r :=
  ⟨h.ok p (by simp), flat_head h.tl, fun q hq => h.ok q (by simp [hq]), fun q hq => h.tl q (List.mem_of_mem_tail hq)⟩
theorem ok_pc {p l : Bs} (h : OkPc p) (hl : l = [] ∨ ∃ u, l = 47 :: u) : pc (p ++ l) = p ∧ rs (p ++ l) = l := by
  obtain ⟨c, t, rfl, ht⟩ := h.shape
  obtain ⟨h1, h2⟩ := tw_all ht hl
  exact ⟨by show c :: (t ++ l).takeWhile _ = _; rw [h1], h2⟩
theorem dots_redo : ∀ (r out : List Bs), Good r → dotsL r.flatten out = out ++ r
  | [], out, _ => by rw [List.flatten_nil, dotsL, dif_pos rfl, List.append_nil]
  | p :: r, out, h => by
    obtain ⟨hp, hl, hr⟩ := good_cons h
    obtain ⟨h1, h2⟩ := ok_pc hp hl
    have hne : p ++ r.flatten ≠ [] := by
      obtain ⟨c, t, rfl, _⟩ := hp.shape
      simp
    rw [List.flatten_cons, dotsL, dif_neg hne, h1, h2, if_neg hp.d1, if_neg hp.d2, if_neg hp.d3, if_neg hp.d4, dots_redo r _ hr]
    simp
/-- No piece of dots stands behind a slash. -/
def DotFree (a : Bs) : Prop := ∀ i, pc (a.drop i) ≠ [47, 46] ∧ pc (a.drop i) ≠ [47, 46, 46]
theorem dots_clean : ∀ r : List Bs, Good r → DotFree r.flatten
  | [], _ => by intro i; simp [pc]
  | p :: r, h => by
    obtain ⟨hp, hl, hr⟩ := good_cons h
    obtain ⟨h1, h2⟩ := ok_pc hp hl
    intro i
    rw [List.flatten_cons]
    by_cases h0 : i = 0
    · subst h0
      rw [List.drop_zero, h1]
      exact ⟨hp.d1, hp.d2⟩
    · by_cases h3 : i < p.length
      · obtain ⟨c, t, rfl, ht⟩ := hp.shape
        obtain ⟨j, rfl⟩ : ∃ j, i = j + 1 := ⟨i - 1, by omega⟩
        have hj : j < t.length := by simpa using h3
        have hd : ((c :: t) ++ r.flatten).drop (j + 1) = t[j] :: (t.drop (j + 1) ++ r.flatten) := by
          rw [List.cons_append, List.drop_succ_cons, List.drop_append_of_le_length (by omega), List.drop_eq_getElem_cons hj]
          rfl
        have hx := ht t[j] (List.getElem_mem hj)
        have hne : t[j] ≠ 47 := by
          intro e
          rw [e] at hx
          exact absurd hx (by decide)
        rw [hd]
        refine ⟨?_, ?_⟩ <;> (intro e; simp only [pc, List.cons.injEq] at e; exact hne e.1)
      · rw [List.drop_append, List.drop_eq_nil_of_le (by omega), List.nil_append]
        exact dots_clean r hr _
/-- What the law asks of the answer. -/
theorem dots_law (s : Bs) : DotFree (dotsL s []).flatten ∧ (dotsL (dotsL s []).flatten []) = dotsL s [] ∧ (dotsL s []).flatten.length ≤ s.length := by
  obtain ⟨h1, h2⟩ := dots_good s.length s [] (Nat.le_refl _) Good.nil (fun h => absurd rfl h)
  exact ⟨dots_clean _ h1, by rw [dots_redo _ _ h1]; rfl, by simpa using h2⟩
end Go.Proofs.YtldancekpigkaaaDoor.S
namespace Go.Proofs.YtldancekpigkaaaDoor.S
open Go.RowKit Go.Lib Go.Proofs.YtldancekpigkaaaDoorW.PrintWords Go.Proofs.YtldancekpigkaaaDoor.X Go.Proofs.YtldancekpigkaaaDoor.Pl Go.Proofs.YtldancekpigkaaaDoor.U
set_option linter.unusedSimpArgs false

theorem rbegins (s t : Bs) : broadsheetref12_begins.f (B s) (B t) = some (s.take t.length == t) := by
  unfold broadsheetref12_begins.f
  by_cases h : t.length ≤ s.length
  · rw [if_pos (by rw [B_size, B_size]; omega), if_pos (by omega), B_size, Int.toNat_natCast, B_extract, List.drop_zero, B_toList, B_toList]
  · rw [if_neg (by rw [B_size, B_size]; omega)]
    have : s.take t.length ≠ t := by
      intro e
      have := congrArg List.length e
      rw [List.length_take] at this
      omega
    rw [beq_eq_false_iff_ne.2 this]
theorem pc_free : ∀ s : Bs, s ≠ [] → ∃ c t, pc s = c :: t ∧ ∀ x ∈ t, notIn [47] x = true
  | [], h => absurd rfl h
  | c :: t, _ => ⟨c, _, rfl, pc_tail t⟩
theorem is_pc {q l : Bs} (hq : ∃ c t, q = c :: t ∧ ∀ x ∈ t, notIn [47] x = true) (hl : l = [] ∨ ∃ u, l = 47 :: u) : pc (q ++ l) = q ∧ rs (q ++ l) = l := by
  obtain ⟨c, t, rfl, ht⟩ := hq
  obtain ⟨h1, h2⟩ := tw_all ht hl
  exact ⟨by show c :: (t ++ l).takeWhile _ = _; rw [h1], h2⟩
theorem beg_iff (s q : Bs) (hq : ∃ c t, q = c :: t ∧ ∀ x ∈ t, notIn [47] x = true) : (s.take (q ++ [47]).length == q ++ [47]) = decide (pc s = q ∧ rs s ≠ []) := by
  rw [Bool.eq_iff_iff, beq_iff_eq, decide_eq_true_iff]
  constructor
  · intro h
    have hs : s = q ++ (47 :: s.drop (q ++ [47]).length) := by
      conv => lhs; rw [← List.take_append_drop (q ++ [47]).length s, h]
      simp
    obtain ⟨h1, h2⟩ := is_pc hq (l := 47 :: s.drop (q ++ [47]).length) (.inr ⟨_, rfl⟩)
    rw [← hs] at h1 h2
    exact ⟨h1, by rw [h2]; simp⟩
  · rintro ⟨h1, h2⟩
    rcases rs_head s with h3 | ⟨t, h3⟩
    · exact absurd h3 h2
    · have hs : s = (q ++ [47]) ++ t := by
        conv => lhs; rw [← pc_rs s, h1, h3]
        simp
      conv => lhs; rw [hs]
      rw [List.take_left']
      rfl
theorem eq_iff (s q : Bs) (hq : ∃ c t, q = c :: t ∧ ∀ x ∈ t, notIn [47] x = true) : s = q ↔ (pc s = q ∧ rs s = []) := by
  constructor
  · rintro rfl
    have := is_pc hq (l := []) (.inl rfl)
    rwa [List.append_nil] at this
  · rintro ⟨h1, h2⟩
    rw [← pc_rs s, h1, h2, List.append_nil]
theorem f1 : ∃ c t, ([46, 46] : Bs) = c :: t ∧ ∀ x ∈ t, notIn [47] x = true := ⟨46, [46], rfl, by decide⟩
theorem f2 : ∃ c t, ([46] : Bs) = c :: t ∧ ∀ x ∈ t, notIn [47] x = true := ⟨46, [], rfl, by decide⟩
theorem f3 : ∃ c t, ([47, 46] : Bs) = c :: t ∧ ∀ x ∈ t, notIn [47] x = true := ⟨47, [46], rfl, by decide⟩
theorem f4 : ∃ c t, ([47, 46, 46] : Bs) = c :: t ∧ ∀ x ∈ t, notIn [47] x = true := ⟨47, [46, 46], rfl, by decide⟩
theorem rup_l0 (a t : Bs) (c : UInt8) (ht : ∀ x ∈ t, notIn [47] x = true) (hc : c = 47 ∨ a = []) (hl : a.length + t.length < 1000000) : ∀ j : Nat, j ≤ t.length → Ev (fun k => broadsheetref12_up.l0 k (B (a ++ c :: t)) ((a.length + j : Nat) : Int)) (B a) := by
  have hsz : (B (a ++ c :: t)).size = a.length + (t.length + 1) := by rw [B_size, List.length_append, List.length_cons]
  intro j
  induction j with
  | zero =>
    intro _
    refine Ev.step (fun k => (show broadsheetref12_up.l0 (k + 1) (B (a ++ c :: t)) ((a.length + 0 : Nat) : Int) = _ from by rw [broadsheetref12_up.l0])) ?_
    refine Ev.ite_pos (by omega) (Ev.ite_pos (by omega) (Ev.ite_pos (by rw [hsz]; omega) ?_))
    have hb : bt (B (a ++ c :: t)) ((a.length + 0 : Nat) : Int) = (c.toNat : Int) := by
      rw [bt_val _ _ (by simp)]
      simp
    rw [hb]
    rcases hc with rfl | rfl
    · refine Ev.ite_pos rfl (Ev.ite_pos (by rw [hsz]; omega) ?_)
      rw [Int.toNat_natCast, B_extract, List.drop_zero, Nat.add_zero, List.take_left']
      · exact Ev.now _
      · rfl
    · by_cases h47 : c = 47
      · subst h47
        refine Ev.ite_pos rfl (Ev.ite_pos (by rw [hsz]; omega) ?_)
        rw [B_extract]
        exact Ev.now _
      · refine Ev.ite_neg (val_ne c 47 h47) ?_
        refine Ev.step (fun k => (show broadsheetref12_up.l0 (k + 1) (B ([] ++ c :: t)) (wrap64 ((([] : Bs).length + 0 : Nat) - 1 : Int)) = _ from by rw [broadsheetref12_up.l0])) ?_
        exact Ev.ite_neg (by show ¬ wrap64 (-1 : Int) ≥ 0; unfold wrap64; omega) (Ev.now _)
  | succ j ih =>
    intro hj
    refine Ev.step (fun k => (show broadsheetref12_up.l0 (k + 1) (B (a ++ c :: t)) ((a.length + (j + 1) : Nat) : Int) = _ from by rw [broadsheetref12_up.l0])) ?_
    refine Ev.ite_pos (by omega) (Ev.ite_pos (by omega) (Ev.ite_pos (by rw [hsz]; omega) ?_))
    have hj2 : j < t.length := by omega
    have hb : bt (B (a ++ c :: t)) ((a.length + (j + 1) : Nat) : Int) = (t[j].toNat : Int) := by
      rw [bt_val _ _ (by simp; omega)]
      simp
    have hne : t[j] ≠ 47 := by
      intro e
      have hx := ht t[j] (List.getElem_mem hj2)
      rw [e] at hx
      exact absurd hx (by decide)
    rw [hb, show wrap64 (((a.length + (j + 1) : Nat) : Int) - 1) = ((a.length + j : Nat) : Int) from by rw [w64 (by omega) (by omega)]; omega]
    exact Ev.ite_neg (val_ne _ 47 hne) (ih (by omega))
theorem rup_ev (out : List Bs) (hg : Good out) (hl : out.flatten.length < 1000000) : Ev (fun k => broadsheetref12_up.f k (B out.flatten)) (B out.dropLast.flatten) := by
  rcases List.eq_nil_or_concat out with rfl | ⟨o, p, rfl⟩
  · unfold broadsheetref12_up.f
    refine Ev.step (fun k => (show broadsheetref12_up.l0 (k + 1) (B []) (wrap64 (((B []).size : Int) - 1)) = _ from by rw [broadsheetref12_up.l0])) ?_
    exact Ev.ite_neg (by show ¬ wrap64 (-1 : Int) ≥ 0; unfold wrap64; omega) (Ev.now _)
  · rw [List.concat_eq_append] at hg hl ⊢
    obtain ⟨c, t, hp, ht⟩ := (hg.ok p (by simp)).shape
    have hc : c = 47 ∨ o.flatten = [] := by
      cases o with
      | nil => exact .inr rfl
      | cons x o' =>
        have := hg.tl p (by simp)
        rw [hp] at this
        exact .inl (by simpa using this)
    have he : (o ++ [p]).flatten = o.flatten ++ c :: t := by rw [hp]; simp
    rw [List.dropLast_concat, he] 
    rw [he, List.length_append, List.length_cons] at hl
    have := rup_l0 o.flatten t c ht hc (by omega) t.length (Nat.le_refl _)
    unfold broadsheetref12_up.f
    rw [show wrap64 (((B (o.flatten ++ c :: t)).size : Int) - 1) = ((o.flatten.length + t.length : Nat) : Int) from by rw [B_size, List.length_append, List.length_cons, w64 (by omega) (by omega)]; omega]
    exact this
theorem dots_slash (out : List Bs) : dotsL [47] out = out ++ [[47]] := by
  have h1 : pc [47] = [47] := rfl
  have h2 : rs [47] = [] := rfl
  rw [dotsL, dif_neg (by decide), h1, h2, if_neg (by decide), if_neg (by decide), if_neg (by decide), if_neg (by decide), dotsL, dif_pos rfl]
theorem B_drop (s : Bs) (n : Nat) : (B s).extract n (B s).size = B (s.drop n) := by
  rw [B_extract, B_size, List.take_of_length_le (Nat.le_refl _)]
theorem drop_pc (s : Bs) : s.drop (pc s).length = rs s := by
  conv => lhs; rw [← pc_rs s]
  rw [List.drop_left']
  conv => rhs; rw [pc_rs s]
theorem take_pc (s : Bs) : s.take (pc s).length = pc s := by
  have : (pc s ++ rs s).take (pc s).length = pc s := List.take_left' rfl
  rwa [pc_rs] at this
theorem rdots_l0 : ∀ (n : Nat) (s : Bs) (out : List Bs), s.length ≤ n → Good out → (out ≠ [] → s = [] ∨ s.head? = some 47) → s.length + out.flatten.length < 1000000 → Ev (fun k => broadsheetref12_Dots.l0 k (B s) (B out.flatten)) (B (dotsL s out).flatten) := by
  intro n
  induction n with
  | zero =>
    intro s out h _ _ _
    have : s = [] := List.length_eq_zero_iff.1 (by omega)
    subst this
    refine Ev.step (fun k => (show broadsheetref12_Dots.l0 (k + 1) (B []) (B out.flatten) = _ from by rw [broadsheetref12_Dots.l0])) ?_
    rw [dotsL, dif_pos rfl]
    exact Ev.ite_neg (by decide) (Ev.now _)
  | succ n ih =>
    intro s out h hg hh hz
    by_cases hs : s = []
    · subst hs
      refine Ev.step (fun k => (show broadsheetref12_Dots.l0 (k + 1) (B []) (B out.flatten) = _ from by rw [broadsheetref12_Dots.l0])) ?_
      rw [dotsL, dif_pos rfl]
      exact Ev.ite_neg (by decide) (Ev.now _)
    · have hr := rs_len hs
      have ht := trim_len (rs s)
      have hsum : (pc s).length + (rs s).length = s.length := by rw [← List.length_append, pc_rs]
      have hlen : 0 < s.length := List.length_pos_iff.2 hs
      have hrs : ∀ o : List Bs, o ≠ [] → rs s = [] ∨ (rs s).head? = some 47 := by
        intro o _
        rcases rs_head s with h1 | ⟨t, h1⟩
        · exact .inl h1
        · rw [h1]; exact .inr rfl
      have b1 : broadsheetref12_begins.f (B s) (⟨#[46, 46, 47]⟩ : ByteArray) = some (decide (pc s = [46, 46] ∧ rs s ≠ [])) := (rbegins s [46, 46, 47]).trans (congrArg some (beg_iff s [46, 46] f1))
      have b2 : broadsheetref12_begins.f (B s) (⟨#[46, 47]⟩ : ByteArray) = some (decide (pc s = [46] ∧ rs s ≠ [])) := (rbegins s [46, 47]).trans (congrArg some (beg_iff s [46] f2))
      have b3 : broadsheetref12_begins.f (B s) (⟨#[47, 46, 47]⟩ : ByteArray) = some (decide (pc s = [47, 46] ∧ rs s ≠ [])) := (rbegins s [47, 46, 47]).trans (congrArg some (beg_iff s [47, 46] f3))
      have b4 : broadsheetref12_begins.f (B s) (⟨#[47, 46, 46, 47]⟩ : ByteArray) = some (decide (pc s = [47, 46, 46] ∧ rs s ≠ [])) := (rbegins s [47, 46, 46, 47]).trans (congrArg some (beg_iff s [47, 46, 46] f4))
      have i3 := eq_iff s [47, 46] f3
      have i4 := eq_iff s [47, 46, 46] f4
      have i2 := eq_iff s [46] f2
      have i1 := eq_iff s [46, 46] f1
      have hno : ∀ q : Bs, q.head? ≠ some 47 → pc s = q → out = [] := by
        intro q hq hp
        apply Classical.byContradiction
        intro hn
        rcases hh hn with h1 | h1
        · exact hs h1
        · rw [← pc_head, hp] at h1; exact hq h1
      rw [dotsL, dif_neg hs]
      refine Ev.step (fun k => (show broadsheetref12_Dots.l0 (k + 1) (B s) (B out.flatten) = _ from by rw [broadsheetref12_Dots.l0])) ?_
      simp only [b1, b2, b3, b4, B_toList, i1, i2, i3, i4, B_drop]
      refine Ev.ite_pos (by rw [B_size]; omega) (Ev.some_bind ?_)
      by_cases c1 : pc s = [47, 46]
      · have hp2 : (pc s).length = 2 := by rw [c1]; rfl
        have hd : s.drop 2 = rs s := by rw [← drop_pc s, hp2]
        rw [if_pos c1]
        refine Ev.ite_neg (by rw [c1]; simp) (Ev.some_bind (Ev.ite_neg (by rw [c1]; simp) (Ev.some_bind ?_)))
        by_cases c2 : rs s = []
        · rw [if_pos c2]
          refine Ev.ite_neg (by rw [c2]; simp) (Ev.ite_pos ⟨c1, c2⟩ ?_)
          have := ih [47] out (by rw [List.length_singleton]; omega) hg (fun _ => .inr rfl) (by rw [List.length_singleton]; omega)
          rwa [dots_slash] at this
        · rw [if_neg c2]
          refine Ev.ite_pos (decide_eq_true ⟨c1, c2⟩) (Ev.ite_pos (by rw [B_size]; omega) ?_)
          rw [hd]
          exact ih (rs s) out (by omega) hg (hrs out) (by omega)
      · rw [if_neg c1]
        by_cases c3 : pc s = [47, 46, 46]
        · have hp2 : (pc s).length = 3 := by rw [c3]; rfl
          have hd : s.drop 3 = rs s := by rw [← drop_pc s, hp2]
          have hdl := dropLast_flat out
          rw [if_pos c3]
          refine Ev.ite_neg (by rw [c3]; simp) (Ev.some_bind (Ev.ite_neg (by rw [c3]; simp) (Ev.some_bind (Ev.ite_neg (by rw [c3]; simp) (Ev.ite_neg (fun hx => c1 hx.1) (Ev.some_bind ?_))))))
          by_cases c2 : rs s = []
          · rw [if_pos c2]
            refine Ev.ite_neg (by rw [c2]; simp) (Ev.ite_pos ⟨c3, c2⟩ (Ev.bind (rup_ev out hg (by omega)) ?_))
            have := ih [47] out.dropLast (by rw [List.length_singleton]; omega) hg.drop (fun _ => .inr rfl) (by rw [List.length_singleton]; omega)
            rwa [dots_slash] at this
          · rw [if_neg c2]
            refine Ev.ite_pos (decide_eq_true ⟨c3, c2⟩) (Ev.ite_pos (by rw [B_size]; omega) (Ev.bind (rup_ev out hg (by omega)) ?_))
            rw [hd]
            exact ih (rs s) out.dropLast (by omega) hg.drop (hrs _) (by omega)
        · rw [if_neg c3]
          by_cases c4 : pc s = [46]
          · have hp2 : (pc s).length = 1 := by rw [c4]; rfl
            have ho := hno [46] (by decide) c4
            have hd : s.drop 2 = (rs s).drop 1 := by rw [← drop_pc s, hp2, List.drop_drop]
            rw [if_pos c4]
            refine Ev.ite_neg (by rw [c4]; simp) (Ev.some_bind ?_)
            rcases rs_head s with c2 | ⟨t, c2⟩
            · refine Ev.ite_neg (by rw [c2]; simp) (Ev.some_bind (Ev.ite_neg (by rw [c4]; simp) (Ev.ite_neg (fun hx => c1 hx.1) (Ev.some_bind (Ev.ite_neg (by rw [c4]; simp) (Ev.ite_neg (fun hx => c3 hx.1) (Ev.ite_pos ⟨c4, c2⟩ ?_)))))))
              rw [show trimPrefix (rs s) [47] = [] from by rw [c2]; rfl]
              exact ih [] out (by simp) hg (fun _ => .inl rfl) (by rw [List.length_nil]; omega)
            · have hne : rs s ≠ [] := by rw [c2]; simp
              refine Ev.ite_pos (decide_eq_true ⟨c4, hne⟩) (Ev.ite_pos (by rw [B_size]; rw [c2] at hsum; simp at hsum; omega) ?_)
              have htr : trimPrefix (rs s) [47] = t := by rw [c2, tp_one]
              rw [hd, htr, c2, show (47 :: t).drop 1 = t from rfl]
              rw [c2] at hsum
              rw [List.length_cons] at hsum
              exact ih t out (by omega) hg (fun hn => absurd ho hn) (by omega)
          · rw [if_neg c4]
            by_cases c5 : pc s = [46, 46]
            · have hp2 : (pc s).length = 2 := by rw [c5]; rfl
              have ho := hno [46, 46] (by decide) c5
              have hd : s.drop 3 = (rs s).drop 1 := by rw [← drop_pc s, hp2, List.drop_drop]
              rw [if_pos c5]
              rcases rs_head s with c2 | ⟨t, c2⟩
              · refine Ev.ite_neg (by rw [c2]; simp) (Ev.some_bind (Ev.ite_neg (by rw [c5]; simp) (Ev.some_bind (Ev.ite_neg (by rw [c5]; simp) (Ev.ite_neg (fun hx => c1 hx.1) (Ev.some_bind (Ev.ite_neg (by rw [c5]; simp) (Ev.ite_neg (fun hx => c3 hx.1) (Ev.ite_neg (fun hx => c4 hx.1) (Ev.ite_pos ⟨c5, c2⟩ ?_))))))))))
                rw [show trimPrefix (rs s) [47] = [] from by rw [c2]; rfl]
                exact ih [] out (by simp) hg (fun _ => .inl rfl) (by rw [List.length_nil]; omega)
              · have hne : rs s ≠ [] := by rw [c2]; simp
                refine Ev.ite_pos (decide_eq_true ⟨c5, hne⟩) (Ev.ite_pos (by rw [B_size]; rw [c2] at hsum; simp at hsum; omega) ?_)
                have htr : trimPrefix (rs s) [47] = t := by rw [c2, tp_one]
                rw [hd, htr, c2, show (47 :: t).drop 1 = t from rfl]
                rw [c2] at hsum
                rw [List.length_cons] at hsum
                exact ih t out (by omega) hg (fun hn => absurd ho hn) (by omega)
            · rw [if_neg c5]
              refine Ev.ite_neg (by simp [c5]) (Ev.some_bind (Ev.ite_neg (by simp [c4]) (Ev.some_bind (Ev.ite_neg (by simp [c1]) (Ev.ite_neg (fun hx => c1 hx.1) (Ev.some_bind (Ev.ite_neg (by simp [c3]) (Ev.ite_neg (fun hx => c3 hx.1) (Ev.ite_neg (fun hx => c4 hx.1) (Ev.ite_neg (fun hx => c5 hx.1) (Ev.ite_pos (by rw [B_size]; omega) ?_)))))))))))
              have hf := rfirst_ev [47] s.tail (by rw [List.length_tail]; omega) (by decide)
              rw [show s.drop 1 = s.tail from List.drop_one]
              refine Ev.bind hf ?_
              have hpl : (pc s).length = (s.tail.takeWhile (notIn [47])).length + 1 := by
                cases s with
                | nil => exact absurd rfl hs
                | cons c t => rfl
              have ew : wrap64 (1 + ((s.tail.takeWhile (notIn [47])).length : Int)) = ((pc s).length : Int) := by rw [w64 (by omega) (by omega)]; omega
              simp only [ew, Int.toNat_natCast, B_drop, drop_pc]
              rw [B_extract, List.drop_zero, take_pc, B_append]
              refine Ev.ite_pos (by omega) (Ev.ite_pos (by rw [B_size]; omega) (Ev.ite_pos (by rw [B_size, B_size]; omega) ?_))
              obtain ⟨c, t, hp, htf⟩ := pc_free s hs
              have hok : OkPc (pc s) := ⟨c1, c3, c4, c5, c, t, hp, htf⟩
              have hn : out ≠ [] → (pc s).head? = some 47 := by
                intro hn
                rw [pc_head]
                rcases hh hn with h1 | h1
                · exact absurd h1 hs
                · exact h1
              have := ih (rs s) (out ++ [pc s]) (by omega) (hg.snoc hok hn) (hrs _) (by rw [flat_snoc]; omega)
              rwa [show (out ++ [pc s]).flatten = out.flatten ++ pc s from by simp] at this
theorem rdots_ev (s : Bs) (hs : s.length < 1000000) : Ev (fun k => broadsheetref12_Dots.f k (B s)) (B (dotsL s []).flatten) :=
  rdots_l0 s.length s [] (Nat.le_refl _) Good.nil (fun h => absurd rfl h) (by simpa using hs)
end Go.Proofs.YtldancekpigkaaaDoor.S
namespace Go.Proofs.YtldancekpigkaaaDoor.S
open Go.RowKit Go.Lib Go.Proofs.YtldancekpigkaaaDoorW.PrintWords Go.Proofs.YtldancekpigkaaaDoor.X Go.Proofs.YtldancekpigkaaaDoor.Pl Go.Proofs.YtldancekpigkaaaDoor.U
set_option linter.unusedSimpArgs false

def dotsB (x : ByteArray) : ByteArray := B (dotsL x.data.toList []).flatten
theorem gdotsB (x : ByteArray) (h : x.size < 1000000) : Ev (fun k => locator_Dots.f k x) (dotsB x) := by
  obtain ⟨s, rfl⟩ := B_eta x
  exact gdots_ev s h
theorem rdotsB (x : ByteArray) (h : x.size < 1000000) : Ev (fun k => broadsheetref12_Dots.f k x) (dotsB x) := by
  obtain ⟨s, rfl⟩ := B_eta x
  exact rdots_ev s h
theorem lastIdx_range (s : ByteArray) (c : Int) : ∀ k : Nat, -1 ≤ lastIdx s c k ∧ lastIdx s c k < k := by
  intro k
  rcases lastIdx_spec s c k with ⟨e, _⟩ | ⟨i, hi, e, _⟩ <;> omega
theorem merged_eq (b0 b1 b2 b3 b4 : ByteArray) (b5 b6 b7 b8 : Bool) (r2 : ByteArray) (h : b2.size + r2.size < 1000000) : locator_merged.f b0 b1 b2 b3 b4 b5 b6 b7 b8 r2 = some (refPath b2 b6 r2) := by
  have hr := lastIdx_range b2 47 b2.size
  have hl : strings_LastIndex.f b2 (⟨#[47]⟩ : ByteArray) = some (lastIndexByte b2 47) := by
    unfold strings_LastIndex.f
    rw [dif_pos ⟨rfl, by omega⟩]
    rfl
  have hw : wrap64 (lastIndexByte b2 47 + 1) = lastIndexByte b2 47 + 1 := w64 (by unfold lastIndexByte; omega) (by unfold lastIndexByte; omega)
  have hx : (b2.extract 0 (lastIndexByte b2 47 + 1).toNat).size ≤ b2.size := by rw [ByteArray.size_extract]; omega
  unfold locator_merged.f refPath
  rw [hl, show strings_HasPrefix.f r2 (⟨#[47]⟩ : ByteArray) = some (hasPrefix r2.data.toList [47]) from rfl]
  simp only [Option.bind_some, hw]
  have e1 : (0 ≤ lastIndexByte b2 47 + 1) := by unfold lastIndexByte; omega
  have e2 : (lastIndexByte b2 47 + 1 ≤ (b2.size : Int)) := by unfold lastIndexByte; omega
  have e3 : (b2.extract 0 (lastIndexByte b2 47 + 1).toNat).size + r2.size ≤ 9223372036854775807 := by omega
  have e4 : 1 + r2.size ≤ 9223372036854775807 := by omega
  rw [if_pos e1, if_pos e2, if_pos e3, if_pos e4]
  cases hasPrefix r2.data.toList [47] with
  | true => rfl
  | false =>
    cases b6 with
    | false => simp
    | true =>
      by_cases e : b2.toList = []
      · simp [e]
      · simp [e]
theorem refPath_size (b2 : ByteArray) (b6 : Bool) (r2 : ByteArray) : (refPath b2 b6 r2).size ≤ b2.size + r2.size + 1 := by
  unfold refPath
  split
  · omega
  · split
    · rw [ByteArray.size_append]
      have : (⟨#[47]⟩ : ByteArray).size = 1 := rfl
      omega
    · rw [ByteArray.size_append, ByteArray.size_extract]
      omega
def resolveV (b0 b1 b2 b3 : ByteArray) (b5 b6 b7 : Bool) (r0 r1 r2 r3 r4 : ByteArray) (r5 r6 r7 r8 : Bool) : ByteArray × ByteArray × ByteArray × ByteArray × ByteArray × Bool × Bool × Bool × Bool :=
  if r5 = true then (r0, r1, dotsB r2, r3, r4, r5, r6, r7, r8)
  else if r6 = true then (b0, r1, dotsB r2, r3, r4, b5, r6, r7, r8)
  else if r2.toList = ([] : List UInt8) then (if r7 = true then (b0, b1, b2, r3, r4, b5, b6, r7, r8) else (b0, b1, b2, b3, r4, b5, b6, b7, r8))
  else (b0, b1, dotsB (refPath b2 b6 r2), r3, r4, b5, b6, r7, r8)
theorem gresolve_ev (b0 b1 b2 b3 b4 : ByteArray) (b5 b6 b7 b8 : Bool) (r0 r1 r2 r3 r4 : ByteArray) (r5 r6 r7 r8 : Bool) (h : b2.size + r2.size < 900000) :
    Ev (fun k => locator_Resolve.f k b0 b1 b2 b3 b4 b5 b6 b7 b8 r0 r1 r2 r3 r4 r5 r6 r7 r8) (resolveV b0 b1 b2 b3 b5 b6 b7 r0 r1 r2 r3 r4 r5 r6 r7 r8) := by
  have hp := refPath_size b2 b6 r2
  unfold locator_Resolve.f resolveV
  by_cases c5 : r5 = true
  · rw [if_pos c5]
    exact Ev.ite_pos c5 (Ev.bind (gdotsB r2 (by omega)) (Ev.now _))
  · rw [if_neg c5]
    refine Ev.ite_neg c5 ?_
    by_cases c6 : r6 = true
    · rw [if_pos c6]
      exact Ev.ite_pos c6 (Ev.bind (gdotsB r2 (by omega)) (Ev.now _))
    · rw [if_neg c6]
      refine Ev.ite_neg c6 ?_
      by_cases c2 : r2.toList = ([] : List UInt8)
      · rw [if_pos c2]
        refine Ev.ite_pos c2 ?_
        by_cases c7 : r7 = true
        · rw [if_pos c7, if_pos c7]
          exact Ev.now _
        · rw [if_neg c7, if_neg c7]
          exact Ev.now _
      · rw [if_neg c2, merged_eq b0 b1 b2 b3 b4 b5 b6 b7 b8 r2 (by omega)]
        exact Ev.ite_neg c2 (Ev.some_bind (Ev.bind (gdotsB _ (by omega)) (Ev.now _)))
theorem rresolve_ev (b0 b1 b2 b3 b4 : ByteArray) (b5 b6 b7 b8 : Bool) (r0 r1 r2 r3 r4 : ByteArray) (r5 r6 r7 r8 : Bool) (h : b2.size + r2.size < 900000) :
    Ev (fun k => broadsheetref12_Resolve.f k b0 b1 b2 b3 b4 b5 b6 b7 b8 r0 r1 r2 r3 r4 r5 r6 r7 r8) (resolveV b0 b1 b2 b3 b5 b6 b7 r0 r1 r2 r3 r4 r5 r6 r7 r8) := by
  have hp := refPath_size b2 b6 r2
  unfold broadsheetref12_Resolve.f resolveV
  by_cases c5 : r5 = true
  · rw [if_pos c5]
    exact Ev.ite_pos c5 (Ev.bind (rdotsB r2 (by omega)) (Ev.now _))
  · rw [if_neg c5]
    refine Ev.ite_neg c5 ?_
    by_cases c6 : r6 = true
    · rw [if_pos c6]
      exact Ev.ite_pos c6 (Ev.bind (rdotsB r2 (by omega)) (Ev.now _))
    · rw [if_neg c6]
      refine Ev.ite_neg c6 ?_
      by_cases c2 : r2.toList = ([] : List UInt8)
      · rw [if_pos c2]
        refine Ev.ite_pos c2 ?_
        by_cases c7 : r7 = true
        · rw [if_pos c7, if_pos c7]
          exact Ev.now _
        · rw [if_neg c7, if_neg c7]
          exact Ev.now _
      · rw [if_neg c2]
        exact Ev.ite_neg c2 (Ev.ite_pos (by omega) (Ev.bind (rdotsB _ (by omega)) (Ev.now _)))
end Go.Proofs.YtldancekpigkaaaDoor.S
namespace Go.Proofs.YtldancekpigkaaaDoor.S
open Go.RowKit Go.Lib Go.Proofs.YtldancekpigkaaaDoorW.PrintWords Go.Proofs.YtldancekpigkaaaDoor.X Go.Proofs.YtldancekpigkaaaDoor.Pl Go.Proofs.YtldancekpigkaaaDoor.U Go.Proofs.YtldancekpigkaaaDoor.RowData
set_option linter.unusedSimpArgs false
theorem lit35 : (⟨#[35]⟩ : ByteArray) = B [35] := rfl
theorem lit63 : (⟨#[63]⟩ : ByteArray) = B [63] := rfl
theorem lit58 : (⟨#[58]⟩ : ByteArray) = B [58] := rfl
theorem lit47 : (⟨#[47, 47]⟩ : ByteArray) = B [47, 47] := rfl
theorem lit0 : (⟨#[]⟩ : ByteArray) = B [] := rfl
theorem gprint2 (a b c d e : Bs) (p q r t : Bool) (h : a.length + b.length + c.length + d.length + e.length ≤ 140737488350000) : locator_Print.f (B a) (B b) (B c) (B d) (B e) p q r t = some (B (uriL a b c d e p q r t)) := by
  unfold locator_Print.f
  rw [if_pos (show (B a).size + (B b).size + (B c).size + (B d).size + (B e).size ≤ 140737488350000 from h)]
  rfl
end Go.Proofs.YtldancekpigkaaaDoor.S
