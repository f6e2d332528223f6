/- Plain law: what the reference's functions of tags answer. -/
import Derived.Test.YtodhbldnmepmaaaDoorT1
import Derived.Test.YtodhbldnmepmaaaDoorU0
import Derived.Test.YtodhbldnmepmaaaDoorPe5
namespace Go.Proofs.YtodhbldnmepmaaaDoor.T
set_option linter.unusedSimpArgs false
open Go.RowKit Go.Lib Go.Proofs.YtodhbldnmepmaaaDoorW.PrintWords Go.Proofs.YtodhbldnmepmaaaDoor.X Go.Proofs.YtodhbldnmepmaaaDoor.Pe Go.Proofs.YtodhbldnmepmaaaDoor.U

theorem val_ne (c d : UInt8) (h : c ≠ d) : ¬ ((c.toNat : Nat) : Int) = ((d.toNat : Nat) : Int) := fun hh => h (UInt8.toNat_inj.1 (by omega))
theorem val_eq (c d : UInt8) (h : c = d) : ((c.toNat : Nat) : Int) = ((d.toNat : Nat) : Int) := by rw [h]
theorem bt_val (l : Bs) (i : Nat) (h : i < l.length) : bt (B l) (i : Int) = (l[i].toNat : Int) := B_bt l i h
theorem bt_head (c : UInt8) (t : Bs) : bt (B (c :: t)) 0 = (c.toNat : Int) := B_bt (c :: t) 0 (by simp)
theorem extract_tail (l : Bs) (n : Nat) : (B l).extract n (B l).size = B (l.drop n) := by rw [B_extract, B_size, List.take_length]
theorem extract_head (l : Bs) (n : Nat) : (B l).extract 0 n = B (l.take n) := by rw [B_extract, List.drop_zero]
theorem M_B (l : Bs) : M l = B l := rfl
theorem toList_nil (l : Bs) : ((B l).toList = ([] : List UInt8)) ↔ l = [] := by rw [B_toList]

theorem skip_nil : skipL [] = [] := rfl
theorem skip_cons (c : UInt8) (t : Bs) : skipL (c :: t) = if c = 32 ∨ c = 9 then skipL t else c :: t := by
  unfold skipL trimLeftS
  rw [List.dropWhile_cons]
  by_cases h : c = 32 ∨ c = 9
  · rw [if_pos h, if_pos (by rcases h with rfl | rfl <;> rfl)]
  · rw [if_neg h, if_neg (by simpa using h)]
theorem skip_ev : ∀ (l : Bs), l.length < 4611686018427387904 → Ev (fun k => broadsheetref13_Skip.l0 k (B l)) (B (skipL l)) := by
  intro l
  induction l with
  | nil =>
    intro _
    refine Ev.step (fun k => (show broadsheetref13_Skip.l0 (k + 1) (B []) = _ from by rw [broadsheetref13_Skip.l0])) ?_
    exact Ev.now _
  | cons c t ih =>
    intro hl
    refine Ev.step (fun k => (show broadsheetref13_Skip.l0 (k + 1) (B (c :: t)) = _ from by rw [broadsheetref13_Skip.l0])) ?_
    have hs : ((B (c :: t)).size : Int) = (t.length : Int) + 1 := by rw [B_size]; simp
    simp only [bt_head, if_pos (show ((B (c :: t)).size : Int) > 0 by omega), if_pos (show 0 < ((B (c :: t)).size : Int) by omega), if_pos (show 1 ≤ ((B (c :: t)).size : Int) by omega), extract_tail, List.drop_one, List.tail_cons]
    have ih := ih (by simp at hl; omega)
    rw [skip_cons]
    by_cases h1 : c = 32
    · simp only [if_pos (show (c.toNat : Int) = 32 from val_eq c 32 h1), if_pos (show c = 32 ∨ c = 9 from .inl h1)]
      exact ih
    · simp only [if_neg (show ¬ (c.toNat : Int) = 32 from val_ne c 32 h1)]
      by_cases h2 : c = 9
      · simp only [if_pos (show (c.toNat : Int) = 9 from val_eq c 9 h2), if_pos (show c = 32 ∨ c = 9 from .inr h2)]
        exact ih
      · simp only [if_neg (show ¬ (c.toNat : Int) = 9 from val_ne c 9 h2), if_neg (show ¬ (c = 32 ∨ c = 9) from fun h => h.elim h1 h2)]
        exact Ev.now _
theorem skipf_ev (l : Bs) (hl : l.length < 4611686018427387904) : Ev (fun k => broadsheetref13_Skip.f k (B l)) (B (skipL l)) := skip_ev l hl

theorem inner_eq (c : UInt8) : broadsheetref17_inner.f (c.toNat : Int) = some (isIn c) := by
  have key : ∀ n : Nat, n < 256 → broadsheetref17_inner.f (n : Int) = some (isIn (UInt8.ofNat n)) := by decide +kernel
  have := key c.toNat c.toNat_lt
  rw [this, UInt8.ofNat_toNat]

/-- What the reference's take answers. -/
def takeV (l : Bs) : Bool × ByteArray × ByteArray × Bool :=
  match takeR l with
  | some (w, v, r) => (w, B v, B r, true)
  | none => (false, B [], B [], false)
def tk2 (w : Bool) (t : Bs) : Bool × ByteArray × ByteArray × Bool :=
  match t.dropWhile isIn with | [] => (false, B [], B [], false) | d :: r => if d = 34 then (w, B (t.takeWhile isIn), B r, true) else (false, B [], B [], false)
def tk1 (w : Bool) (l : Bs) : Bool × ByteArray × ByteArray × Bool :=
  match l with | [] => (false, B [], B [], false) | c :: t => if c = 34 then tk2 w t else (false, B [], B [], false)
theorem take_l0 (w : Bool) (t : Bs) (x : ByteArray) (hl : t.length < 4611686018427387904) : ∀ (d i : Nat), t.length - i ≤ d → i ≤ t.length → (∀ c ∈ t.take i, isIn c = true) →
    Ev (fun k => broadsheetref17_take.l0 k (B (34 :: t)) ((i : Int) + 1) w x) (tk2 w t) := by
  have fin : (∀ c ∈ t, isIn c = true) → ∀ i : Nat, i = t.length → Ev (fun k => broadsheetref17_take.l0 k (B (34 :: t)) ((i : Int) + 1) w x) (tk2 w t) := by
    intro hall i hi
    subst hi
    unfold tk2
    rw [(dw_nil t).2 hall]
    refine Ev.step (fun k => (show broadsheetref17_take.l0 (k + 1) (B (34 :: t)) ((t.length : Int) + 1) w x = _ from by rw [broadsheetref17_take.l0])) ?_
    have hs : ((B (34 :: t)).size : Int) = (t.length : Int) + 1 := by rw [B_size]; simp
    simp only [if_neg (show ¬ (t.length : Int) + 1 < ((B (34 :: t)).size : Int) by omega), if_pos (show (t.length : Int) + 1 = ((B (34 :: t)).size : Int) by omega)]
    exact Ev.now _
  intro d
  induction d with
  | zero =>
    intro i hd hi hall
    rw [List.take_of_length_le (by omega)] at hall
    exact fin hall i (by omega)
  | succ d ih =>
    intro i hd hi hall
    by_cases h : i < t.length
    · refine Ev.step (fun k => (show broadsheetref17_take.l0 (k + 1) (B (34 :: t)) ((i : Int) + 1) w x = _ from by rw [broadsheetref17_take.l0])) ?_
      have hs : ((B (34 :: t)).size : Int) = (t.length : Int) + 1 := by rw [B_size]; simp
      have e1 : wrap64 ((i : Int) + 1 + 1) = ((i + 1 : Nat) : Int) + 1 := by rw [w64 (by omega) (by omega)]; omega
      have hb : bt (B (34 :: t)) ((i : Int) + 1) = (t[i].toNat : Int) := bt_val (34 :: t) (i + 1) (by simp; omega)
      simp only [if_pos (show (i : Int) + 1 < ((B (34 :: t)).size : Int) by omega), if_pos (show (0 : Int) ≤ (i : Int) + 1 by omega), hb, inner_eq, Option.bind_some, e1]
      have esplit : t = t.take i ++ t[i] :: t.drop (i + 1) := by rw [← List.drop_eq_getElem_cons h, List.take_append_drop]
      by_cases hc : isIn t[i] = true
      · simp only [if_pos hc]
        refine ih (i + 1) (by omega) (by omega) ?_
        intro c hcm
        rw [List.take_add_one, List.getElem?_eq_getElem h] at hcm
        rcases List.mem_append.1 hcm with hcm | hcm
        · exact hall c hcm
        · simp only [Option.toList_some, List.mem_singleton] at hcm
          rw [hcm]; exact hc
      · have hdw : t.dropWhile isIn = t[i] :: t.drop (i + 1) := by
          conv => lhs; rw [esplit]
          rw [List.dropWhile_append_of_pos hall, List.dropWhile_cons, if_neg hc]
        have htw : t.takeWhile isIn = t.take i := by
          conv => lhs; rw [esplit]
          rw [List.takeWhile_append_of_pos hall, List.takeWhile_cons, if_neg hc, List.append_nil]
        unfold tk2
        rw [hdw, htw]
        simp only [if_neg hc, if_neg (show ¬ (i : Int) + 1 = ((B (34 :: t)).size : Int) by omega)]
        by_cases h34 : t[i] = 34
        · have t1 : ((i : Int) + 1).toNat = i + 1 := by omega
          have t2 : (((i + 1 : Nat) : Int) + 1).toNat = i + 2 := by omega
          simp only [if_pos (show (t[i].toNat : Int) = 34 from val_eq _ 34 h34), if_pos h34, if_pos (show (1 : Int) ≤ (i : Int) + 1 by omega), if_pos (show (i : Int) + 1 ≤ ((B (34 :: t)).size : Int) by omega), if_pos (show (0 : Int) ≤ ((i + 1 : Nat) : Int) + 1 by omega), if_pos (show ((i + 1 : Nat) : Int) + 1 ≤ ((B (34 :: t)).size : Int) by omega), t1, t2, extract_tail]
          rw [B_extract]
          have e2 : (List.take (i + 1) ((34 : UInt8) :: t)).drop 1 = t.take i := by simp
          have e3 : ((34 : UInt8) :: t).drop (i + 2) = t.drop (i + 1) := by simp
          rw [e2, e3]
          exact Ev.now _
        · simp only [if_neg (show ¬ (t[i].toNat : Int) = 34 from val_ne _ 34 h34), if_neg h34]
          exact Ev.now _
    · rw [List.take_of_length_le (by omega)] at hall
      exact fin hall i (by omega)
theorem take_j1 (w : Bool) (l : Bs) (x : ByteArray) (hl : l.length < 4611686018427387904) : Ev (fun k => broadsheetref17_take.j1 k (B l) w x)
    (tk1 w l) := by
  refine Ev.step (fun k => (show broadsheetref17_take.j1 (k + 1) (B l) w x = _ from by rw [broadsheetref17_take.j1])) ?_
  cases l with
  | nil =>
    simp only [if_pos (show (B []).toList = ([] : List UInt8) from (toList_nil []).2 rfl)]
    refine Ev.step (fun k => (show broadsheetref17_take.j2 (k + 1) (B []) true w x = _ from by rw [broadsheetref17_take.j2])) ?_
    exact Ev.now _
  | cons c t =>
    have hs : ((B (c :: t)).size : Int) = (t.length : Int) + 1 := by rw [B_size]; simp
    simp only [if_neg (show ¬ (B (c :: t)).toList = ([] : List UInt8) from fun h => List.cons_ne_nil _ _ ((toList_nil _).1 h)), if_pos (show 0 < ((B (c :: t)).size : Int) by omega), bt_head]
    by_cases h : c = 34
    · subst h
      rw [show tk1 w (34 :: t) = tk2 w t from by simp [tk1]]
      refine Ev.step (fun k => (show broadsheetref17_take.j2 (k + 1) (B (34 :: t)) _ w x = _ from by rw [broadsheetref17_take.j2])) ?_
      simp only [if_neg (show ¬ ((((34 : UInt8).toNat : Int) != 34) = true) by decide)]
      exact take_l0 w t x (by simp at hl; omega) t.length 0 (by omega) (by omega) (by simp)
    · refine Ev.step (fun k => (show broadsheetref17_take.j2 (k + 1) (B (c :: t)) _ w x = _ from by rw [broadsheetref17_take.j2])) ?_
      simp only [if_pos (show ((c.toNat : Int) != 34) = true from by rw [bne_iff_ne]; exact val_ne c 34 h), tk1, if_neg h]
      exact Ev.now _
theorem takeV_eq (l : Bs) : takeV l = tk1 (hasPrefix l [87, 47]) (trimPrefix l [87, 47]) := by
  unfold takeV takeR tk1 tk2
  cases trimPrefix l [87, 47] with
  | nil => rfl
  | cons c t =>
    by_cases h : c = 34
    · simp only [if_pos h]
      cases t.dropWhile isIn with
      | nil => rfl
      | cons d r =>
        by_cases h2 : d = 34
        · simp only [if_pos h2]
        · simp only [if_neg h2]
    · simp only [if_neg h]
theorem take_ev (l : Bs) (hl : l.length < 4611686018427387904) : Ev (fun k => broadsheetref17_take.f k (B l)) (takeV l) := by
  rw [takeV_eq]
  unfold broadsheetref17_take.f
  have j0f : ∀ y, Ev (fun k => broadsheetref17_take.j0 k (B l) false false y) (tk1 false l) := by
    intro y
    refine Ev.step (fun k => (show broadsheetref17_take.j0 (k + 1) (B l) false false y = _ from by rw [broadsheetref17_take.j0])) ?_
    simp only [Bool.false_eq_true, if_false]
    exact take_j1 false l y hl
  have none_ : hasPrefix l [87, 47] = false → trimPrefix l [87, 47] = l := by
    intro h
    unfold trimPrefix
    rw [h]
    rfl
  by_cases h1 : ((B l).size : Int) > 1
  · have h2 : 2 ≤ l.length := by rw [B_size] at h1; omega
    simp only [if_pos h1, if_pos (show (0 : Int) ≤ 2 by omega), if_pos (show (2 : Int) ≤ ((B l).size : Int) by omega), extract_head, B_toList]
    by_cases h3 : l.take 2 = [87, 47]
    · have hp : hasPrefix l [87, 47] = true := by
        unfold hasPrefix
        rw [List.isPrefixOf_iff_prefix]
        exact ⟨l.drop 2, by rw [← h3, List.take_append_drop]⟩
      have ht : trimPrefix l [87, 47] = l.drop 2 := by unfold trimPrefix; rw [hp]; rfl
      rw [hp, ht]
      have hb : (l.take 2 == ([87, 47] : List UInt8)) = true := beq_iff_eq.2 h3
      simp only [hb]
      refine Ev.step (fun k => (show broadsheetref17_take.j0 (k + 1) (B l) true false _ = _ from by rw [broadsheetref17_take.j0])) ?_
      simp only [if_true, if_pos (show (2 : Int) ≤ ((B l).size : Int) by omega), extract_tail]
      exact take_j1 true (l.drop 2) _ (by rw [List.length_drop]; omega)
    · have hp : hasPrefix l [87, 47] = false := by
        cases hq : hasPrefix l [87, 47] with
        | false => rfl
        | true =>
          unfold hasPrefix at hq
          rw [List.isPrefixOf_iff_prefix] at hq
          obtain ⟨t, rfl⟩ := hq
          exact absurd rfl h3
      have hb : (l.take 2 == ([87, 47] : List UInt8)) = false := beq_eq_false_iff_ne.2 h3
      simp only [hb]
      rw [hp, none_ hp]
      exact j0f _
  · simp only [if_neg h1]
    have hp : hasPrefix l [87, 47] = false := by
      rw [B_size] at h1
      match l, h1 with
      | [], _ => rfl
      | [c], _ => simp [hasPrefix, List.isPrefixOf]
      | a :: b :: t, h1 => simp at h1; omega
    rw [hp, none_ hp]
    exact j0f _
end Go.Proofs.YtodhbldnmepmaaaDoor.T
