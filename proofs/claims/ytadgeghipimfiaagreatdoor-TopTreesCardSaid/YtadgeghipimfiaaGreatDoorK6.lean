/- The law TopTrees of broadsheet/broadsheettop: for every input the call answers true: the row and its tied card, out of the plain law and the walks (texts merged: K0 to K6). Conditions: the listed variables of the library hold what the program's text lays. -/
import Derived.Test.YtadgeghipimfiaaGreatDoorK5
import Derived.Lib.MapU
import Derived.Lib.MapLaws
import Derived.BigQuiet
import Derived.Test.YtadgeghipimfiaaGreatDoorCards
import Derived.Test.YtadgeghipimfiaaGreatDoorTie
import Derived.WalkKit
import Derived.ProofKit
import Derived.OpenShut
import Derived.ChangeOld
import Derived.Below
import Derived.SizedLaws
import Derived.Lay
import Derived.SevenTiedAt
section
namespace Go.Proofs.YtadgeghipimfiaaGreatDoor.Z
open Go.RowKit Go.Lib Go.Proofs.YtadgeghipimfiaaGreatDoorW.PrintWords Go.Proofs.YtadgeghipimfiaaGreatDoor.U Go.Proofs.YtadgeghipimfiaaGreatDoor.X Go.Proofs.YtadgeghipimfiaaGreatDoor.Pg
set_option linter.unusedVariables false
set_option linter.unusedSimpArgs false
def lowB (c : UInt8) : UInt8 := if 65 ≤ c.toNat ∧ c.toNat ≤ 90 then c + 32 else c
def rowOk (x : CaseRow) : Bool := decide (x.2.1 < 128) || (decide (128 ≤ x.1) && (decide (x.2.2.2.1 > 1114111) || decide (122 < (x.1 : Int) + x.2.2.2.1) || (decide (x.1 = x.2.1) && decide (0 ≤ (x.1 : Int) + x.2.2.2.1) && decide ((x.1 : Int) + x.2.2.2.1 ≠ 120) && decide ((x.1 : Int) + x.2.2.2.1 ≠ 109) && decide ((x.1 : Int) + x.2.2.2.1 ≠ 108))))
theorem rows_ok : caseT.all rowOk = true := by decide +kernel
theorem lookup_in (T : Array CaseRow) (r : Int) : ∀ (f lo hi i : Nat), lookupIdx T r f lo hi = some i → hi ≤ T.size → i < T.size ∧ ((T.getD i (0, 0, 0, 0, 0)).1 : Int) ≤ r ∧ r ≤ ((T.getD i (0, 0, 0, 0, 0)).2.1 : Int)
 | 0, _, _, _, h, _ => by cases h
 | f + 1, lo, hi, i, h, hs => by
   unfold lookupIdx at h
   by_cases h1 : lo < hi
   ·rw [if_pos h1] at h
    by_cases h2 : ((T.getD ((lo + hi) / 2) (0, 0, 0, 0, 0)).1 : Int) ≤ r ∧ r ≤ ((T.getD ((lo + hi) / 2) (0, 0, 0, 0, 0)).2.1 : Int)
    ·rw [if_pos h2] at h
     obtain rfl := Option.some.inj h
     exact ⟨by omega, h2⟩
    ·rw [if_neg h2] at h
     split at h
     ·exact lookup_in T r f _ _ i h (by omega)
     ·exact lookup_in T r f _ _ i h hs
   ·rw [if_neg h1] at h
    cases h
theorem low_high (r : Int) (h : 128 ≤ r) : 0 ≤ toLowerU r ∧ toLowerU r ≠ 120 ∧ toLowerU r ≠ 109 ∧ toLowerU r ≠ 108 := by
 unfold toLowerU
 rw [if_neg (by omega)]
 unfold toR lookupGo
 cases hl : lookupIdx caseA r (caseA.size + 1) 0 caseA.size with
 | none => simp only [Option.map_none]; omega
 | some i =>
   obtain ⟨h1, h2, h3⟩ := lookup_in caseA r _ _ _ i hl (Nat.le_refl _)
   simp only [Option.map_some]
   have hm : caseA.getD i (0, 0, 0, 0, 0) ∈ caseT := by
    have : caseA.getD i (0, 0, 0, 0, 0) = caseA[i] := by simp [Array.getD, h1]
    rw [this]
    exact Array.getElem_mem_toList h1
   have hr := List.all_eq_true.1 rows_ok _ hm
   generalize caseA.getD i (0, 0, 0, 0, 0) = x at *
   obtain ⟨lo, hi, u, d, t⟩ := x
   unfold rowOk at hr
   simp only [Bool.or_eq_true, Bool.and_eq_true, decide_eq_true_eq] at hr h2 h3
   unfold convertR CaseRow.delta
   simp only
   split <;> omega
theorem enc_one {v : Int} (h0 : 0 ≤ v) (h : ∀ c ∈ encodeRune v, c = 120 ∨ c = 109 ∨ c = 108) : v = 120 ∨ v = 109 ∨ v = 108 := by
 have key : ∀ n : Nat, n < 256 → ((n.toUInt8 = 120 ∨ n.toUInt8 = 109 ∨ n.toUInt8 = 108) → n = 120 ∨ n = 109 ∨ n = 108) := by decide +kernel
 have hb := encodeRuneZ_byte v
 have hx : ∀ x ∈ encodeRuneZ v, x = 120 ∨ x = 109 ∨ x = 108 := by
  intro x hx
  have h1 := h _ (List.mem_map.2 ⟨x, hx, rfl⟩)
  have h2 := hb x hx
  have h3 := key x.toNat (by omega) h1
  omega
 by_cases h1 : v ≤ 127
 ·rw [encodeRuneZ_one h0 h1] at hx
  exact hx v List.mem_cons_self
 ·exfalso
  by_cases h2 : v ≤ 2047
  ·rw [encodeRuneZ_two (by omega) h2] at hx
   have := hx (192 + v / 64) List.mem_cons_self
   omega
  ·by_cases h3 : (2048 ≤ v ∧ v < 55296) ∨ (57343 < v ∧ v ≤ 65535)
   ·rw [encodeRuneZ_three h3] at hx
    have := hx (224 + v / 4096) List.mem_cons_self
    omega
   ·by_cases h4 : 65536 ≤ v ∧ v ≤ 1114111
    ·rw [encodeRuneZ_four h4.1 h4.2] at hx
     have := hx (240 + v / 262144) List.mem_cons_self
     omega
    ·rw [encodeRuneZ_bad (by omega)] at hx
     have := hx 239 List.mem_cons_self
     omega
theorem dec_high (l : Bs) (h0 : l ≠ []) (h : 128 ≤ nb l 0) : 128 ≤ (decodeL l).1 := by
 rw [decodeL_eq]
 unfold decodeN
 rw [if_neg (by omega)]
 split
 ·split
  ·assumption
  ·decide
 ·split
  ·split
   ·show 128 ≤ _; omega
   ·decide
  ·split
   ·split
    ·show 128 ≤ _; omega
    ·decide
   ·decide
theorem low_byte : ∀ n : Nat, n < 128 → encodeRune (toLowerU (n : Int)) = [lowB n.toUInt8] ∧ 0 ≤ toLowerU (n : Int) := by decide +kernel
theorem low_go : ∀ (k : Nat) (l : Bs), l.length ≤ k → (∀ c ∈ mapGoD toLowerU k l, c = 120 ∨ c = 109 ∨ c = 108) → l.map lowB = mapGoD toLowerU k l
 | 0, l, hl, _ => by
   have : l = [] := List.eq_nil_of_length_eq_zero (by omega)
   subst this
   rfl
 | k + 1, [], hl, _ => rfl
 | k + 1, c :: t, hl, h => by
   unfold mapGoD at h ⊢
   rw [if_neg (by simp)] at h ⊢
   by_cases hc : c.toNat < 128
   ·rw [decode_ascii' c t hc] at h ⊢
    obtain ⟨e1, e2⟩ := low_byte c.toNat hc
    have ec : c.toNat.toUInt8 = c := by simp
    rw [ec] at e1
    simp only [if_pos e2, e1, List.drop_succ_cons, List.drop_zero] at h ⊢
    rw [List.map_cons, low_go k t (by simpa using hl) (fun x hx => h x (List.mem_append_right _ hx))]
    rfl
   ·exfalso
    have h1 := dec_high (c :: t) (by simp) (by show 128 ≤ c.toNat; omega)
    obtain ⟨h2, h3, h4, h5⟩ := low_high ((decodeL (c :: t)).1 : Int) (by omega)
    rw [if_pos h2] at h
    rcases enc_one h2 (fun x hx => h x (List.mem_append_left _ hx)) with e | e | e
    ·exact h3 e
    ·exact h4 e
    ·exact h5 e
theorem low_bytes : ∀ n : Nat, n < 256 → ((lowB n.toUInt8 = 120 → n = 88 ∨ n = 120) ∧ (lowB n.toUInt8 = 109 → n = 77 ∨ n = 109) ∧ (lowB n.toUInt8 = 108 → n = 76 ∨ n = 108)) := by decide +kernel
theorem byte_of {c : UInt8} {n : Nat} (h : c.toNat = n) : c = n.toUInt8 := by rw [← h]; simp
theorem lower_xml (l : Bs) : (toLowerD l == ([120, 109, 108] : Bs)) = (l.map lowB == ([120, 109, 108] : Bs)) := by
 rw [Bool.eq_iff_iff, beq_iff_eq, beq_iff_eq]
 constructor
 ·intro h
  have e := low_go l.length l (Nat.le_refl _) (fun c hc => by
   have h : mapGoD toLowerU l.length l = [120, 109, 108] := h
   rw [h] at hc
   simpa using hc)
  rw [e]
  exact h
 ·intro h
  match l, h with
  | [], h => simp at h
  | [_], h => simp at h
  | [_, _], h => simp at h
  | _ :: _ :: _ :: _ :: _, h => simp at h
  | [a, b, c], h =>
    simp only [List.map_cons, List.map_nil, List.cons.injEq, and_true] at h
    obtain ⟨ha, hb, hc⟩ := h
    have la := low_bytes a.toNat a.toNat_lt
    have lb := low_bytes b.toNat b.toNat_lt
    have lc := low_bytes c.toNat c.toNat_lt
    rw [show a.toNat.toUInt8 = a by simp] at la
    rw [show b.toNat.toUInt8 = b by simp] at lb
    rw [show c.toNat.toUInt8 = c by simp] at lc
    rcases la.1 ha with h1 | h1 <;> rcases lb.2.1 hb with h2 | h2 <;> rcases lc.2.2 hc with h3 | h3 <;>
     (rw [byte_of h1, byte_of h2, byte_of h3]; decide +kernel)
theorem ix_one (c : UInt8) : ∀ l : Bs, (index l [c] == -1) = !l.contains c
 | [] => rfl
 | d :: l => by
   unfold index
   rw [List.contains_cons]
   by_cases h : c = d
   ·subst h
    simp [List.isPrefixOf]
   ·have h1 : ([c] : Bs).isPrefixOf (d :: l) = false := by simp [List.isPrefixOf, h]
    have h2 : (c == d) = false := by simpa using h
    rw [h1, h2, Bool.false_or, ← ix_one c l]
    by_cases h3 : index l [c] == -1
    ·simp [h3]
    ·have h4 := index_ge l [c]
     have h5 : (index l [c] == -1) = false := by simpa using h3
     rw [h5]
     simp only [Bool.false_eq_true, if_false, beq_eq_false_iff_ne, ne_eq] at h5 ⊢
     omega
theorem ix_dash : ∀ l : Bs, (index (l ++ [45]) [45, 45] == -1) = ((index l [45, 45] == -1) && decide (l.getLast? ≠ some 45))
 | [] => rfl
 | [c] => by
   by_cases h : c = 45
   ·subst h; rfl
   ·have h1 : ([45, 45] : Bs).isPrefixOf [c, 45] = false := by simp [List.isPrefixOf]; exact fun e => absurd e.symm h
    have h2 : ([45, 45] : Bs).isPrefixOf [c] = false := by simp [List.isPrefixOf]
    have e1 : index [c, 45] [45, 45] = -1 := by unfold index; rw [h1]; rfl
    have e2 : index [c] [45, 45] = -1 := by unfold index; rw [h2]; rfl
    rw [List.singleton_append, e1, e2]
    simp [h]
 | c :: d :: l => by
   have ih := ix_dash (d :: l)
   have hp : ([45, 45] : Bs).isPrefixOf (c :: d :: (l ++ [45])) = ([45, 45] : Bs).isPrefixOf (c :: d :: l) := by simp [List.isPrefixOf]
   rw [List.cons_append, List.cons_append] at *
   have ea : index (c :: d :: (l ++ [45])) [45, 45] = if ([45, 45] : Bs).isPrefixOf (c :: d :: (l ++ [45])) then 0 else if index (d :: (l ++ [45])) [45, 45] == -1 then -1 else index (d :: (l ++ [45])) [45, 45] + 1 := rfl
   have eb : index (c :: d :: l) [45, 45] = if ([45, 45] : Bs).isPrefixOf (c :: d :: l) then 0 else if index (d :: l) [45, 45] == -1 then -1 else index (d :: l) [45, 45] + 1 := rfl
   rw [ea, eb, hp, List.getLast?_cons_cons]
   cases ([45, 45] : Bs).isPrefixOf (c :: d :: l) with
   | true => rfl
   | false =>
     have g1 := index_ge (d :: (l ++ [45])) [45, 45]
     have g2 := index_ge (d :: l) [45, 45]
     have n1 : ∀ x : Int, -1 ≤ x → ((if (x == -1) = true then (-1 : Int) else x + 1) == -1) = (x == -1) := by
      intro x hx
      by_cases h : x = -1
      ·subst h; rfl
      ·have h5 : (x == -1) = false := by simpa using h
       rw [h5]
       simp only [Bool.false_eq_true, if_false, beq_eq_false_iff_ne, ne_eq]
       omega
     simp only [Bool.false_eq_true, if_false]
     rw [n1 _ g1, n1 _ g2]
     exact ih
theorem ix_short (l sub : Bs) (h : l.length < sub.length) : index l sub = -1 := by
 induction l with
 | nil =>
   cases sub with
   | nil => simp at h
   | cons a t => rfl
 | cons c l ih =>
   have hp : sub.isPrefixOf (c :: l) = false := by
    rw [← Bool.not_eq_true, List.isPrefixOf_iff_prefix]
    intro hh
    have := hh.length_le
    omega
   unfold index
   rw [hp, ih (by simp at h; omega)]
   rfl
theorem ix_cons (c : UInt8) (l sub : Bs) : (index (c :: l) sub != -1) = (sub.isPrefixOf (c :: l) || (index l sub != -1)) := by
 have e : index (c :: l) sub = if sub.isPrefixOf (c :: l) then 0 else if index l sub == -1 then -1 else index l sub + 1 := rfl
 rw [e]
 cases sub.isPrefixOf (c :: l) with
 | true => rfl
 | false =>
   have g := index_ge l sub
   simp only [Bool.false_eq_true, if_false, Bool.false_or]
   generalize index l sub = x at *
   by_cases h : x = -1
   ·subst h; rfl
   ·have h5 : (x == -1) = false := by simpa using h
    have h6 : x + 1 ≠ -1 := by omega
    have h7 : (x != -1) = true := by simpa using h
    have h8 : (x + 1 != -1) = true := by simpa using h6
    rw [h5, h7]
    simpa using h6
theorem ix_drop (s sub : Bs) (i : Nat) (h : i < s.length) : (index (s.drop i) sub != -1) = (sub.isPrefixOf (s.drop i) || (index (s.drop (i + 1)) sub != -1)) := by
 have e : s.drop i = s[i] :: s.drop (i + 1) := List.drop_eq_getElem_cons h
 rw [e]
 exact ix_cons _ _ _
theorem pre_take (s sub : Bs) (i : Nat) : sub.isPrefixOf (s.drop i) = ((s.drop i).take sub.length == sub) := by
 rw [Bool.eq_iff_iff, List.isPrefixOf_iff_prefix, beq_iff_eq, List.prefix_iff_eq_take]
 exact ⟨fun h => h.symm, fun h => h.symm⟩
theorem low_int (c : UInt8) : ((lowB c).toNat : Int) = if 65 ≤ c.toNat ∧ c.toNat ≤ 90 then ((c.toNat : Int) + 32) % 256 else (c.toNat : Int) := by
 have h : ∀ n : Nat, n < 256 → ((lowB n.toUInt8).toNat : Int) = if 65 ≤ n ∧ n ≤ 90 then ((n : Int) + 32) % 256 else (n : Int) := by decide +kernel
 have := h c.toNat c.toNat_lt
 rw [show c.toNat.toUInt8 = c by simp] at this
 exact this
theorem lower_end (l : Bs) (i : Nat) (h : l.length ≤ i) : Ev (fun k => broadsheetref07_Lower.l0 k (B l) (((l.take i).map lowB).map fun c => (c.toNat : Int)) (i : Int)) (B (l.map lowB)) := by
 refine Ev.step (fun k => (show broadsheetref07_Lower.l0 (k + 1) (B l) _ i = _ from by rw [broadsheetref07_Lower.l0])) ?_
 simp only [if_neg (show ¬ (i : Int) < ((B l).size : Int) by rw [B_size]; omega)]
 rw [List.take_of_length_le (by omega)]
 have e : strOfNums ((l.map lowB).map fun c => (c.toNat : Int)) = B (l.map lowB) := by
  unfold strOfNums B
  congr 1
  rw [List.map_map]
  have : (fun n => UInt8.ofNat (Int.toNat n)) ∘ (fun c : UInt8 => (c.toNat : Int)) = id := by funext c; simp
  rw [this, List.map_id]
 rw [e]
 exact Ev.now _
theorem lower_l0 (l : Bs) (hl : l.length < 140737488355328) : ∀ (d i : Nat), l.length - i ≤ d → i ≤ l.length → Ev (fun k => broadsheetref07_Lower.l0 k (B l) (((l.take i).map lowB).map fun c => (c.toNat : Int)) (i : Int)) (B (l.map lowB)) := by
 intro d
 induction d with
 | zero =>
   intro i hd hi
   exact lower_end l i (by omega)
 | succ d ih =>
   intro i hd hi
   by_cases h : i < l.length
   ·refine Ev.step (fun k => (show broadsheetref07_Lower.l0 (k + 1) (B l) _ i = _ from by rw [broadsheetref07_Lower.l0])) ?_
    have e1 : wrap64 ((i : Int) + 1) = ((i + 1 : Nat) : Int) := by rw [w64 (by omega) (by omega)]; rfl
    have q := ih (i + 1) (by omega) (by omega)
    rw [List.take_succ_eq_append_getElem h, List.map_append, List.map_append] at q
    simp only [List.map_cons, List.map_nil, low_int] at q
    have hlen : (((l.take i).map lowB).map fun c => (c.toNat : Int)).length < 140737488355328 := by simp; omega
    simp only [if_pos (show (i : Int) < ((B l).size : Int) by rw [B_size]; omega), if_pos (show (0 : Int) ≤ (i : Int) by omega), bt_val l i h, e1, if_pos hlen]
    by_cases h1 : 65 ≤ l[i].toNat
    ·simp only [if_pos (show ((l[i].toNat : Nat) : Int) ≥ 65 by omega)]
     by_cases h2 : l[i].toNat ≤ 90
     ·simp only [if_pos (show ((l[i].toNat : Nat) : Int) ≤ 90 by omega)]
      rw [if_pos ⟨h1, h2⟩] at q
      exact q
     ·simp only [if_neg (show ¬ ((l[i].toNat : Nat) : Int) ≤ 90 by omega)]
      rw [if_neg (fun h => h2 h.2)] at q
      exact q
    ·simp only [if_neg (show ¬ ((l[i].toNat : Nat) : Int) ≥ 65 by omega)]
     rw [if_neg (fun h => h1 h.1)] at q
     exact q
   ·exact lower_end l i (by omega)
theorem lower_ev (l : Bs) (hl : l.length < 140737488355328) : Ev (fun k => broadsheetref07_Lower.f k (B l)) (B (l.map lowB)) := by
 have := lower_l0 l hl l.length 0 (by omega) (by omega)
 unfold broadsheetref07_Lower.f
 exact this
theorem has_l0 (s t : Bs) (hs : s.length < 140737488355328) (ht : t ≠ []) (ht2 : t.length ≤ 100) : ∀ (d i : Nat), s.length - i ≤ d → i ≤ s.length → Ev (fun k => broadsheetref10_has.l0 k (B s) (B t) (i : Int)) (index (s.drop i) t != -1) := by
 have htl : 0 < t.length := List.length_pos_iff.2 ht
 intro d
 induction d with
 | zero =>
   intro i hd hi
   refine Ev.step (fun k => (show broadsheetref10_has.l0 (k + 1) (B s) (B t) i = _ from by rw [broadsheetref10_has.l0])) ?_
   have e1 : wrap64 ((i : Int) + ((B t).size : Int)) = ((i + t.length : Nat) : Int) := by rw [B_size, w64 (by omega) (by omega)]; omega
   simp only [e1, if_neg (show ¬ ((i + t.length : Nat) : Int) ≤ ((B s).size : Int) by rw [B_size]; omega)]
   rw [ix_short (s.drop i) t (by simp; omega)]
   exact Ev.now _
 | succ d ih =>
   intro i hd hi
   refine Ev.step (fun k => (show broadsheetref10_has.l0 (k + 1) (B s) (B t) i = _ from by rw [broadsheetref10_has.l0])) ?_
   have e1 : wrap64 ((i : Int) + ((B t).size : Int)) = ((i + t.length : Nat) : Int) := by rw [B_size, w64 (by omega) (by omega)]; omega
   have e2 : wrap64 ((i : Int) + 1) = ((i + 1 : Nat) : Int) := by rw [w64 (by omega) (by omega)]; rfl
   by_cases h : i + t.length ≤ s.length
   ·simp only [e1, e2, if_pos (show ((i + t.length : Nat) : Int) ≤ ((B s).size : Int) by rw [B_size]; omega), if_pos (show (0 : Int) ≤ (i : Int) by omega), if_pos (show (i : Int) ≤ ((i + t.length : Nat) : Int) by omega), Int.toNat_natCast, B_extract, B_toList]
    have e3 : (s.take (i + t.length)).drop i = (s.drop i).take t.length := by rw [List.drop_take]; congr 1; omega
    rw [e3, ix_drop s t i (by omega), pre_take]
    by_cases hp : (s.drop i).take t.length = t
    ·simp only [if_pos hp, hp, beq_self_eq_true, Bool.true_or]
     exact Ev.now _
    ·have hp2 : ((s.drop i).take t.length == t) = false := by simpa using hp
     simp only [if_neg hp, hp2, Bool.false_or]
     exact ih (i + 1) (by omega) (by omega)
   ·simp only [e1, if_neg (show ¬ ((i + t.length : Nat) : Int) ≤ ((B s).size : Int) by rw [B_size]; omega)]
    rw [ix_short (s.drop i) t (by simp; omega)]
    exact Ev.now _
theorem has_ev (s t : Bs) (hs : s.length < 140737488355328) (ht : t ≠ []) (ht2 : t.length ≤ 100) : Ev (fun k => broadsheetref10_has.f k (B s) (B t)) (index s t != -1) := by
 have := has_l0 s t hs ht ht2 s.length 0 (by omega) (by omega)
 rw [List.drop_zero] at this
 unfold broadsheetref10_has.f
 exact this
theorem skip_l0 : ∀ (d : Nat) (l : Bs), l.length ≤ d → Ev (fun k => broadsheetref05_Skip.l0 k (B l)) (B (trimLeftS l [32, 9, 10, 13])) := by
 intro d
 induction d with
 | zero =>
   intro l hl
   obtain rfl : l = [] := List.eq_nil_of_length_eq_zero (by omega)
   refine Ev.step (fun k => (show broadsheetref05_Skip.l0 (k + 1) (B []) = _ from by rw [broadsheetref05_Skip.l0])) ?_
   simp only [if_neg (show ¬ ((B []).size : Int) > 0 by decide)]
   exact Ev.now _
 | succ d ih =>
   intro l hl
   refine Ev.step (fun k => (show broadsheetref05_Skip.l0 (k + 1) (B l) = _ from by rw [broadsheetref05_Skip.l0])) ?_
   cases l with
   | nil =>
     simp only [if_neg (show ¬ ((B []).size : Int) > 0 by decide)]
     exact Ev.now _
   | cons c t =>
     have hc := c.toNat_lt
     have hz : ((B (c :: t)).size : Int) > 0 := by rw [B_size, List.length_cons]; omega
     have hb : bt (B (c :: t)) 0 = (c.toNat : Int) := B_bt (c :: t) 0 (by simp)
     have hw : wrap64 (c.toNat : Int) = (c.toNat : Int) := w64 (by omega) (by omega)
     have hx : (B (c :: t)).extract 1 (B (c :: t)).size = B t := extract_tail (c :: t) 1
     have hsp : broadsheetref05_Space.f (c.toNat : Int) = some (([32, 9, 10, 13] : Bs).contains c) := by
      have key : ∀ n : Nat, n < 256 → broadsheetref05_Space.f (n : Int) = some (([32, 9, 10, 13] : Bs).contains n.toUInt8) := by
       unfold broadsheetref05_Space.f
       decide +kernel
      have := key c.toNat c.toNat_lt
      rw [show c.toNat.toUInt8 = c by simp] at this
      exact this
     simp only [if_pos hz, hb, hw, hx, hsp, Option.bind_some, if_pos (show (0 : Int) < ((B (c :: t)).size : Int) from hz), if_pos (show (1 : Int) ≤ ((B (c :: t)).size : Int) by omega)]
     have ed : trimLeftS (c :: t) [32, 9, 10, 13] = if ([32, 9, 10, 13] : Bs).contains c = true then trimLeftS t [32, 9, 10, 13] else c :: t := by
      unfold trimLeftS
      rw [List.dropWhile_cons]
     rw [ed]
     cases ([32, 9, 10, 13] : Bs).contains c with
     | true => simp only [if_true]; exact ih t (by simpa using hl)
     | false => simp only [Bool.false_eq_true, if_false]; exact Ev.now _
theorem skip_ev (l : Bs) : Ev (fun k => broadsheetref05_Skip.f k (B l)) (B (trimLeftS l [32, 9, 10, 13])) := by
 unfold broadsheetref05_Skip.f
 exact skip_l0 _ l (Nat.le_refl _)
theorem attrsOkN_cons (had : List (Bs × Bs)) (a : At) (l : List At) : attrsOkN had (a :: l) = (!had.contains (a.1, a.2.1) && plainB a.2.1 && textOk a.1 && textOk a.2.2 && (a.1 != V.tNS) && attrsOkN (had ++ [(a.1, a.2.1)]) l) := by
 conv => lhs; unfold attrsOkN
def kindOk (k : Int) (nm d : Bs) : Bool :=
 if k = 1 then nm.isEmpty && !d.isEmpty
 else if k = 2 then nm.isEmpty && !d.contains 13 && (Lib.index (d ++ [45]) [45, 45] == -1)
 else if k = 3 then plainB nm && (Lib.toLowerD nm != tXml) && !d.contains 13 && (Lib.index d [63, 62] == -1) && (Lib.trimLeftS d [32, 9, 10, 13] == d)
 else false
theorem leafOk_kind (k : Int) (sp nm : Bs) (at_ : List At) (kids : List Tr) (d : Bs) : leafOk (.mk k sp nm at_ kids d) = (sp.isEmpty && at_.isEmpty && kids.isEmpty && textOk d && kindOk k nm d) := rfl
theorem mayB_mk0 (sp nm : Bs) (at_ : List At) (kids : List Tr) (d : Bs) (depth : Nat) : mayB (.mk 0 sp nm at_ kids d) depth = (decide (depth ≤ 30) && d.isEmpty && plainB nm && textOk sp && (sp != V.tNS) && (sp != V.tXML) && attrsOk at_ && mayBs kids 0 (depth + 1)) := by
 conv => lhs; unfold mayB
 rw [if_pos rfl]
theorem mayB_mkl {k : Int} (hk : k ≠ 0) (sp nm : Bs) (at_ : List At) (kids : List Tr) (d : Bs) (depth : Nat) : mayB (.mk k sp nm at_ kids d) depth = leafOk (.mk k sp nm at_ kids d) := by
 conv => lhs; unfold mayB
 rw [if_neg hk]
theorem mayBs_mk (t : Tr) (l : List Tr) (last : Int) (depth : Nat) : mayBs (t :: l) last depth = (!(decide (t.kind = 1) && decide (last = 1)) && mayB t depth && mayBs l t.kind depth) := by
 conv => lhs; unfold mayBs
end Go.Proofs.YtadgeghipimfiaaGreatDoor.Z
end
section
namespace Go.Proofs.YtadgeghipimfiaaGreatDoor.X
open Go.RowKit Go.Shelf Go.Proofs.YtadgeghipimfiaaGreatDoorW.PrintWords Go.Proofs.YtadgeghipimfiaaGreatDoor.F Go.Proofs.YtadgeghipimfiaaGreatDoor.Pg Go.Proofs.YtadgeghipimfiaaGreatDoor.Z
set_option linter.unusedVariables false
set_option linter.unusedSimpArgs false
theorem rplain_calls (n : Bs) (w : World) (hn : n.length ≤ 140737488355328) : Calls Tryz.prog 29 #[.string (M n)] w fun e w' => e = .returned (.bool (U.plainB n)) ∧ Below w.heap.size w w' := by
 obtain ⟨k, hk⟩ := U.rplain_ev n (by omega)
 exact broadsheetref05_Plain.calls k _ _ w (hk k (Nat.le_refl _))
theorem rcheck_calls (l : Bs) (w : World) : Calls Tryz.prog 50 #[.string (M l)] w fun e w' => e = .returned (.int .i64 (U.checkL l.length l)) ∧ Below w.heap.size w w' := by
 obtain ⟨k, hk⟩ := U.rcheck_ev l
 exact broadsheetref05_Check.calls k _ _ w (hk k (Nat.le_refl _))
theorem text_check {l : Bs} : (textOk l = true ∧ U.checkL l.length l = 0) ∨ (textOk l = false ∧ U.checkL l.length l ≠ 0) := by
 unfold textOk
 by_cases h : U.checkL l.length l = 0
 ·exact .inl ⟨by rw [h]; rfl, h⟩
 ·exact .inr ⟨by simpa using h, h⟩
set_option maxRecDepth 100000 in
set_option maxHeartbeats 1000000 in
theorem rspace_calls (s : Bs) (w : World) : Calls Tryz.prog 30 #[.string (M s)] w fun e w' => e = .returned (.bool (textOk s && (s != V.tNS))) ∧ Below w.heap.size w w' := by
 have HC := Lib.hid (rcheck_calls s w)
 obtain ⟨nb, hnb⟩ : ∃ nb, (s == ([104, 116, 116, 112, 58, 47, 47, 119, 119, 119, 46, 119, 51, 46, 111, 114, 103, 47, 50, 48, 48, 48, 47, 120, 109, 108, 110, 115, 47] : List UInt8)) = nb := ⟨_, rfl⟩
 have e : (s != V.tNS) = !nb := by rw [← hnb]; rfl
 rw [e]
 rcases @text_check s with ⟨h1, h2⟩ | ⟨h1, h2⟩
 ·rw [h1, Bool.true_and]
  rw [h2] at HC
  clear h1 h2 e
  go_enter Tryz.func30, Tryz.ntmps30
  go_wp2_with fail
  refine HC.out.mono ?_
  rintro x W1 ⟨rfl, hb⟩
  cases nb with
  | true =>
    go_wp2
    go_ret
    exact ⟨rfl, hb⟩
  | false =>
    go_wp2
    go_ret
    exact ⟨rfl, hb⟩
 ·rw [h1, Bool.false_and]
  generalize U.checkL s.length s = cv at HC h2
  clear h1 e hnb
  go_enter Tryz.func30, Tryz.ntmps30
  go_wp2_with fail
  refine HC.out.mono ?_
  rintro x W1 ⟨rfl, hb⟩
  go_wp2
  go_ret
  exact ⟨rfl, hb⟩
def hadL (l : List At) (k : Nat) : List (Bs × Bs) := ([], tXmlns) :: (l.take k).map fun a => (a.1, a.2.1)
theorem hadL_succ {l : List At} {k : Nat} (h : k < l.length) : hadL l (k + 1) = hadL l k ++ [(l[k].1, l[k].2.1)] := by
 unfold hadL
 rw [List.take_succ_eq_append_getElem h, List.map_append]
 rfl
theorem hadL_has {l : List At} {k j : Nat} (hj : j < k) (hk : k < l.length) (h : l[j].1 = l[k].1 ∧ l[j].2.1 = l[k].2.1) : (hadL l k).contains (l[k].1, l[k].2.1) = true := by
 rw [List.contains_iff_mem]
 refine List.mem_cons_of_mem _ (List.mem_map.2 ⟨l[j], ?_, by rw [h.1, h.2]⟩)
 rw [List.mem_iff_getElem]
 exact ⟨j, by simp; omega, by simp⟩
theorem hadL_no {l : List At} {k : Nat} (hk : k < l.length) (h0 : ¬ (l[k].1 = [] ∧ l[k].2.1 = tXmlns)) (h : ∀ j (hj : j < k), ¬ (l[j].1 = l[k].1 ∧ l[j].2.1 = l[k].2.1)) : (hadL l k).contains (l[k].1, l[k].2.1) = false := by
 rw [← Bool.not_eq_true, List.contains_iff_mem]
 intro hm
 rcases List.mem_cons.1 hm with e | e
 ·injection e with e1 e2
  exact h0 ⟨e1, e2⟩
 ·obtain ⟨a, ha, e⟩ := List.mem_map.1 e
  obtain ⟨j, hj, rfl⟩ := List.mem_iff_getElem.1 ha
  rw [List.getElem_take] at e
  injection e with e1 e2
  exact h j (by simp at hj; omega) ⟨e1, e2⟩
set_option maxRecDepth 100000 in
set_option maxHeartbeats 4000000 in
theorem rattrs_calls (A : Option Addr) (c : Nat) (l : List At) (w : World) (hA : kAttr.C w A l.length l) (hl : l.length ≤ 140737488355328) (hs : ∀ a ∈ l, a.2.1.length ≤ 140737488355328) :
  Calls Tryz.prog 31 #[.slice A l.length c] w fun e w' => e = .returned (.bool (attrsOkN [([], tXmlns)] l)) ∧ Below w.heap.size w w' := by
 have HA := Lib.hid hA
 have HS := Lib.hid hs
 obtain ⟨bb, hbb⟩ : ∃ bb, bb = attrsOkN [([], tXmlns)] l := ⟨_, rfl⟩
 rw [← hbb]
 have HI := Aside0.mk (And.intro (Below.refl w.heap.size w) (show bb = attrsOkN (hadL l 0) (l.drop 0) from hbb))
 clear hA hs hbb
 go_enter Tryz.func31, Tryz.ntmps31
 go_wp2_with fail
 go_loopw [3] (fun v3 wr => ∃ (k : Nat), v3 = .int .i64 k ∧ k ≤ l.length ∧ Aside0 (Below w.heap.size w wr ∧ bb = attrsOkN (hadL l k) (l.drop k))) (fun v3 _ => l.length - (intOf v3).toNat)
 case atStart => exact ⟨0, rfl, by omega, HI⟩
 case round =>
  obtain ⟨k, rfl, hk, HB⟩ := hrel
  by_cases hlt : k < l.length
  ·obtain ⟨ad, rfl, c0, c1, c2⟩ := attr_at (Kd.C_below (d := kAttr) HA.out HB.out.1) k hlt
   have hba : Below wr.heap.size wr (wr.alloc (.cells (atC l[k]) 38)) := (Below.refl _ _).alloc (Nat.le_refl _) _
   have b1 := Blk.new wr (atC l[k]) 38
   have y1 := b1.cell 1
   have hstep : bb = (!(hadL l k).contains (l[k].1, l[k].2.1) && U.plainB l[k].2.1 && textOk l[k].1 && textOk l[k].2.2 && (l[k].1 != V.tNS) && attrsOkN (hadL l (k + 1)) (l.drop (k + 1))) := by
    rw [HB.out.2, List.drop_eq_getElem_cons hlt, attrsOkN_cons, hadL_succ hlt]
   have HP := Lib.hid (rplain_calls l[k].2.1 (wr.alloc (.cells (atC l[k]) 38)) (HS.out l[k] (List.getElem_mem hlt)))
   generalize U.plainB l[k].2.1 = pb at HP hstep
   have H1 := Lib.hid (And.intro (HB.out.1.trans (hba.mono HB.out.1.size)) (And.intro b1 hstep))
   clear hba b1 hstep
   go_wp2_with fail
   refine HP.out.mono ?_
   rintro x W1 ⟨rfl, h1⟩
   have hb1 := H1.out.1.trans (h1.mono H1.out.1.size)
   have hx1 := H1.out.2.1.below h1 H1.out.2.1.lt
   cases pb with
   | false =>
     obtain rfl : bb = false := by rw [H1.out.2.2]; simp
     clear y1 hx1
     go_wp2
     go_ret
     exact ⟨rfl, hb1⟩
   | true =>
     have y0 := hx1.cell 0
     have HSP := Lib.hid (rspace_calls l[k].1 W1)
     obtain ⟨sb, hsb⟩ : ∃ sb, sb = (textOk l[k].1 && (l[k].1 != V.tNS)) := ⟨_, rfl⟩
     rw [← hsb] at HSP
     have H2 := Lib.hid (And.intro hb1 (And.intro hx1 hsb))
     clear hb1 hx1 hsb y1 h1
     go_wp2_with fail
     refine HSP.out.mono ?_
     rintro x W2 ⟨rfl, h2⟩
     have hb2 := H2.out.1.trans (h2.mono H2.out.1.size)
     have hx2 := H2.out.2.1.below h2 H2.out.2.1.lt
     cases sb with
     | false =>
       obtain rfl : bb = false := by
        have e : ∀ x y z v q : Bool, false = (x && y) → (z && true && x && v && y && q) = false := by decide
        rw [H1.out.2.2]
        exact e _ _ _ _ _ H2.out.2.2
       clear y0 hx2
       go_wp2
       go_ret
       exact ⟨rfl, hb2⟩
     | true =>
       have y2 := hx2.cell 2
       have HCK := Lib.hid (rcheck_calls l[k].2.2 W2)
       have H3 := Lib.hid (And.intro hb2 hx2)
       clear y0 hb2 hx2 h2
       rcases @text_check l[k].2.2 with ⟨ht, hv⟩ | ⟨ht, hv⟩
       ·rw [hv] at HCK
        have HTV := Lib.hid ht
        clear ht hv
        go_wp2_with fail
        refine HCK.out.mono ?_
        rintro x W3 ⟨rfl, h3⟩
        have hb3 := H3.out.1.trans (h3.mono H3.out.1.size)
        have hx3 := H3.out.2.below h3 H3.out.2.lt
        clear y2
        have y0 := hx3.cell 0
        have y1 := hx3.cell 1
        have H4 := Lib.hid (And.intro hb3 hx3)
        obtain ⟨eb, heb⟩ : ∃ eb, l[k].1.isEmpty = eb := ⟨_, rfl⟩
        obtain ⟨xb, hxb⟩ : ∃ xb, (l[k].2.1 == ([120, 109, 108, 110, 115] : List UInt8)) = xb := ⟨_, rfl⟩
        have hst : bb = (!(hadL l k).contains (l[k].1, l[k].2.1) && attrsOkN (hadL l (k + 1)) (l.drop (k + 1))) := by
         have e : ∀ x y z v q : Bool, true = (x && y) → v = true → (z && true && x && v && y && q) = (z && q) := by decide
         rw [H1.out.2.2]
         exact e _ _ _ _ _ H2.out.2.2 HTV.out
        have HE := Lib.hid (And.intro heb (And.intro hxb hst))
        clear hb3 hx3 h3 hst
        by_cases h0 : eb = true ∧ xb = true
        ·obtain ⟨rfl, rfl⟩ := h0
         obtain rfl : bb = false := by
          rw [HE.out.2.2]
          have e1 : l[k].1 = [] := List.isEmpty_iff.1 HE.out.1
          have e2 : l[k].2.1 = tXmlns := eq_of_beq HE.out.2.1
          have : (hadL l k).contains (l[k].1, l[k].2.1) = true := by
           rw [List.contains_iff_mem, e1, e2]
           exact List.mem_cons_self
          rw [this]
          rfl
         go_wp2
         go_ret
         exact ⟨rfl, H4.out.1⟩
        ·have hcs : eb = false ∨ (eb = true ∧ xb = false) := by
          cases eb <;> cases xb <;> simp at h0 ⊢
         have hno : ¬ (l[k].1 = [] ∧ l[k].2.1 = tXmlns) := fun h => h0 ⟨by rw [← heb, h.1]; rfl, by rw [← hxb, h.2]; rfl⟩
         have HN := Lib.hid hno
         have HI2 := Aside0.mk (And.intro H4.out.1 (And.intro H4.out.2 (fun i a (hi : i < 0) => absurd hi (Nat.not_lt_zero i) : ∀ i a, i < 0 → l[i]? = some a → ¬ (a.1 = l[k].1 ∧ a.2.1 = l[k].2.1))))
         clear h0 hno
         rcases hcs with rfl | ⟨rfl, rfl⟩
         all_goals (
          go_wp2_with fail
          clear y0 y1 c0 c1 c2
          generalize wr.heap.size = bx at *
          go_loopw [5] (fun v5 wq => ∃ (j : Nat), v5 = .int .i64 j ∧ j ≤ k ∧ Aside0 (Below w.heap.size w wq ∧ Blk wq bx (atC l[k]) 38 ∧ ∀ i a, i < j → l[i]? = some a → ¬ (a.1 = l[k].1 ∧ a.2.1 = l[k].2.1))) (fun v5 _ => k - (intOf v5).toNat)
          case atStart => exact ⟨0, rfl, by omega, HI2⟩
          case round =>
           obtain ⟨j, rfl, hj, HQ⟩ := hrel
           by_cases hjk : j < k
           ·have hjl : j < l.length := by omega
            obtain ⟨ad2, had2, d0, d1, d2⟩ := attr_at (Kd.C_below (d := kAttr) HA.out HQ.out.1) j hjl
            obtain rfl := Option.some.inj had2
            have y0 := HQ.out.2.1.cell 0
            have y1 := HQ.out.2.1.cell 1
            obtain ⟨qb, hqb⟩ : ∃ qb, (l[j].1 == l[k].1) = qb := ⟨_, rfl⟩
            obtain ⟨rb, hrb⟩ : ∃ rb, (l[j].2.1 == l[k].2.1) = rb := ⟨_, rfl⟩
            have HQR := Lib.hid (And.intro hqb hrb)
            have HD : ∀ n, Aside0 (Below w.heap.size w (wr.drewN n) ∧ Blk (wr.drewN n) bx (atC l[k]) 38) := fun n => ⟨HQ.out.1.trans ((below_drewN wr n).mono HQ.out.1.size), HQ.out.2.1.below (below_drewN wr n) HQ.out.2.1.lt⟩
            by_cases hh : qb = true ∧ rb = true
            ·obtain ⟨rfl, rfl⟩ := hh
             obtain rfl : bb = false := by
              rw [HE.out.2.2, hadL_has hjk hlt ⟨eq_of_beq HQR.out.1, eq_of_beq HQR.out.2⟩]
              rfl
             go_wp2
             go_quiet (fail)
             go_wp2
             go_ret
             exact ⟨rfl, (HD _).out.1⟩
            ·have H8 := Lib.hid (fun i a (hi : i < j + 1) (ha : l[i]? = some a) => by
              by_cases hij : i < j
              ·exact HQ.out.2.2 i a hij ha
              ·obtain rfl : i = j := by omega
               rw [List.getElem?_eq_getElem hjl] at ha
               obtain rfl := Option.some.inj ha
               intro hq
               exact hh ⟨by rw [← HQR.out.1, hq.1]; simp, by rw [← HQR.out.2, hq.2]; simp⟩ : ∀ i a, i < j + 1 → l[i]? = some a → ¬ (a.1 = l[k].1 ∧ a.2.1 = l[k].2.1))
             have hff : qb = false ∨ (qb = true ∧ rb = false) := by
              cases qb <;> cases rb <;> simp at hh ⊢
             clear hh
             rcases hff with rfl | ⟨rfl, rfl⟩
             all_goals (
              go_wp2
              go_quiet (fail)
              go_wp2
              go_roundw
              case rel => exact ⟨j + 1, by go_num, by omega, ⟨(HD _).out.1, (HD _).out.2, H8.out⟩⟩
              case measure => simp [intOf]; omega)
           ·obtain rfl : j = k := by omega
            have hcon := hadL_no hlt HN.out (fun i hi => HQ.out.2.2 i l[i] hi (List.getElem?_eq_getElem (by omega)))
            have hst : bb = attrsOkN (hadL l (j + 1)) (l.drop (j + 1)) := by
             rw [HE.out.2.2, hcon]; rfl
            have H9 := Aside0.mk (And.intro HQ.out.1 hst)
            clear hst hcon
            go_wp2
            go_roundw
            case rel => exact ⟨j + 1, by go_num, by omega, H9⟩
            case measure => simp [intOf]; omega)
       ·obtain rfl : bb = false := by
         rw [H1.out.2.2, ht]; simp
        generalize U.checkL (l[k].2.2).length l[k].2.2 = cv at HCK hv
        clear ht
        go_wp2_with fail
        refine HCK.out.mono ?_
        rintro x W3 ⟨rfl, h3⟩
        have hb3 := H3.out.1.trans (h3.mono H3.out.1.size)
        clear y2
        go_wp2
        go_ret
        exact ⟨rfl, hb3⟩
  ·obtain rfl : bb = true := by
    rw [HB.out.2, List.drop_eq_nil_of_le (by omega)]
    rfl
   have HE := Lib.hid HB.out.1
   clear HB
   go_wp2
   go_ret
   exact ⟨rfl, HE.out⟩
end Go.Proofs.YtadgeghipimfiaaGreatDoor.X
end
section
namespace Go.Proofs.YtadgeghipimfiaaGreatDoor.X
open Go.RowKit Go.Shelf Go.Proofs.YtadgeghipimfiaaGreatDoorW.PrintWords Go.Proofs.YtadgeghipimfiaaGreatDoor.F Go.Proofs.YtadgeghipimfiaaGreatDoor.Pg Go.Proofs.YtadgeghipimfiaaGreatDoor.Z Go.Proofs.YtadgeghipimfiaaGreatDoorW.PrintLast
set_option linter.unusedVariables false
set_option linter.unusedSimpArgs false
def rleafT : Bool × List (List Nat × List Nat) := (true, [([], []), ([0], [0]), ([1], [1]), ([2, 2], [2]), ([3], [3]), ([4, 3], [3, 4]), ([5, 3, 3], [3, 5]), ([6, 3], [3, 6]), ([3, 7], [3, 7]), ([8, 6], [8]), ([9], [9]), ([10, 9], [9, 10]), ([11, 9, 9], [9, 11]), ([12, 9], [9, 12]), ([9, 13], [9, 13]), ([14, 12], [14]), ([15], [15]), ([16, 15], [15, 16]), ([17, 15, 15], [15, 17]), ([15], [15]), ([19, 15], [15, 19]), ([18, 20, 15], [15, 18, 20]), ([15, 21], [15, 21]), ([22, 18], [22]), ([23], [23]), ([24, 23], [23, 24]), ([25, 23, 23], [23, 25]), ([26, 23], [23, 26]), ([23, 27], [23, 27]), ([28, 26, 0, 1, 2, 3, 4, 5, 6, 7, 8, 9, 10, 11, 12, 13, 14, 15, 16, 17, 18, 19, 20, 21, 22, 23, 24, 25, 26, 27, 28], [28])])
def rleafB : List Nat := [0, 1, 3, 7, 15, 31, 63, 127, 255, 511, 1023, 2047, 4095, 8191, 16383, 32767, 65535, 131071, 262143, 65535, 589823, 2097151, 4194303, 8388607, 16777215, 33554431, 67108863, 134217727, 268435455, 536870911]
theorem rleaf_tab : rtab .any (opsOf Tryz.f28 9) = rleafT := by kernel_rfl
theorem rleaf_bits : waitsOk rleafT.2 rleafB = true := by kernel_rfl
def pl30 (k : Nat) : Array Bool := ((List.range 30).map fun i => decide (i < k)).toArray
section
variable {P : Program} {ops : Array Oper} {Q : Exit → Act → World → Prop} {md : Region.Mode} {S : World → Prop} {ds : List Nat}
theorem pu_ {T : Bool × List (List Nat × List Nat)} {i : Nat} {N : Option Tmp} {oi : Oper} {v : Value} {fuel : Nat} {l : Array Bool} {a : Act} {w : World} (l' : Array Bool) (hi : ops[i]? = some oi) (hN : oi.dst = N) (hT : Aside0 (rtab md ops = T)) (h : anyT T l.toList l'.toList i = true)
  (hQ : ∀ c a w, Q (.panic c) (a.put oi.dst v) w → Q (.panic c) a w) (hy : Yields P ops oi v a) {a' : Act} (ha : a.put N v = a') (hq : wpAnyLast P md ops Q S ds fuel l' a' w) : wpAnyLast P md ops Q S ds (fuel + 1) l a w :=
 pure_ l' hi hN (any_of hT.out h) hQ hy ha hq
end
def RlHeld (w : World) (nm d : Bs) (cs : Array Value) (v : World) : Prop := Below w.heap.size w v ∧ Blk v w.heap.size cs 25 ∧ cs[2]? = some (.string (M nm)) ∧ cs[5]? = some (.string (M d))
theorem rl_step {w v v' : World} {nm d : Bs} {cs : Array Value} (h : RlHeld w nm d cs v) (hq : Below v.heap.size v v') : RlHeld w nm d cs v' :=
 ⟨h.1.trans (hq.mono h.1.size), h.2.1.below hq h.2.1.lt, h.2.2⟩
theorem rl_held {w v : World} {nm d : Bs} {cs : Array Value} (h : RlHeld w nm d cs v) : v.cell? ⟨w.heap.size, 2, none⟩ = some (.string (M nm)) ∧ v.cell? ⟨w.heap.size, 5, none⟩ = some (.string (M d)) :=
 ⟨(h.2.1.cell 2).trans h.2.2.1, (h.2.1.cell 5).trans h.2.2.2⟩
theorem rlower_calls (l : Bs) (w : World) (hl : l.length < 140737488355328) : Calls Tryz.prog 52 #[.string (M l)] w fun e w' => e = .returned (.string (M (l.map lowB))) ∧ Below w.heap.size w w' := by
 obtain ⟨k, hk⟩ := lower_ev l hl
 exact broadsheetref07_Lower.calls k _ _ w (hk k (Nat.le_refl _))
theorem rskip_calls (l : Bs) (w : World) : Calls Tryz.prog 53 #[.string (M l)] w fun e w' => e = .returned (.string (M (Lib.trimLeftS l [32, 9, 10, 13]))) ∧ Below w.heap.size w w' := by
 obtain ⟨k, hk⟩ := skip_ev l
 exact (broadsheetref05_Skip.calls k _ _ w (hk k (Nat.le_refl _))).mono fun e w' h => ⟨h.1, h.2.below⟩
theorem rhas_calls (s t : Bs) (w : World) (hs : s.length < 140737488355328) (ht : t ≠ []) (ht2 : t.length ≤ 100) : Calls Tryz.prog 51 #[.string (M s), .string (M t)] w fun e w' => e = .returned (.bool (Lib.index s t != -1)) ∧ Below w.heap.size w w' := by
 obtain ⟨k, hk⟩ := has_ev s t hs ht ht2
 exact (broadsheetref10_has.calls k _ _ _ w (hk k (Nat.le_refl _))).mono fun e w' h => ⟨h.1, h.2.below⟩
theorem has13 (d : Bs) : (Lib.index d [13] != -1) = d.contains 13 := by
 unfold bne
 rw [ix_one, Bool.not_not]
set_option maxRecDepth 100000 in
set_option maxHeartbeats 4000000 in
theorem rleaf_pi {nm d : Bs} {A B : Option Addr} {c e : Nat} (w : World) (hn : nm.length < 140737488355328) (hd : d.length < 140737488355328) :
  Calls Tryz.prog 28 #[.agg #[.int .i64 3, .string (M []), .string (M nm), .slice A ([] : List At).length c, .slice B ([] : List Tr).length e, .string (M d)]] w fun x w' => x = .returned (.bool (leafOk (.mk 3 [] nm [] [] d))) ∧ Below w.heap.size w w' := by
 have hb0 : Below w.heap.size w (w.alloc (.cells #[.int .i64 3, .string (M []), .string (M nm), .slice A ([] : List At).length c, .slice B ([] : List Tr).length e, .string (M d)] 25)) := (Below.refl _ _).alloc (Nat.le_refl _) _
 have hbx := Blk.new w #[.int .i64 3, .string (M []), .string (M nm), .slice A ([] : List At).length c, .slice B ([] : List Tr).length e, .string (M d)] 25
 have x0 := hbx.cell 0
 have x1 := hbx.cell 1
 have x3 := hbx.cell 3
 have x4 := hbx.cell 4
 have x5 := hbx.cell 5
 obtain ⟨pb, hpb⟩ : ∃ pb, pb = U.plainB nm := ⟨_, rfl⟩
 obtain ⟨lb, hlb⟩ : ∃ lb, (nm.map lowB == ([120, 109, 108] : Bs)) = lb := ⟨_, rfl⟩
 obtain ⟨rb, hrb⟩ : ∃ rb, rb = d.contains 13 := ⟨_, rfl⟩
 obtain ⟨ib, hib⟩ : ∃ ib, ib = (Lib.index d [63, 62] != -1) := ⟨_, rfl⟩
 obtain ⟨sb, hsb⟩ : ∃ sb, (Lib.trimLeftS d [32, 9, 10, 13] == d) = sb := ⟨_, rfl⟩
 obtain ⟨bb, hbb⟩ : ∃ bb, bb = leafOk (.mk 3 [] nm [] [] d) := ⟨_, rfl⟩
 rw [← hbb]
 have hlow : (Lib.toLowerD nm != tXml) = !lb := by
  show (!(Lib.toLowerD nm == ([120, 109, 108] : Bs))) = _
  rw [lower_xml, hlb]
 have hixx : (Lib.index d [63, 62] == -1) = !ib := by rw [hib]; unfold bne; rw [Bool.not_not]
 have hord : ∀ t p l r i s : Bool, (t && (p && !l && !r && !i && s)) = (t && (p && (!l && (!i && (s && !r))))) := by decide
 have hval : bb = (textOk d && (pb && (!lb && (!ib && (sb && !rb))))) := by
  rw [← hord, hbb, leafOk_kind]
  unfold Z.kindOk
  rw [if_neg (by decide), if_neg (by decide), if_pos rfl, hlow, hixx, ← hpb, ← hrb, hsb]
  rfl
 have HC := Lib.hid (show (∀ W, Calls Tryz.prog 29 #[.string (M nm)] W fun e w' => e = .returned (.bool pb) ∧ Below W.heap.size W w') ∧ (∀ W, Calls Tryz.prog 52 #[.string (M nm)] W fun e w' => e = .returned (.string (M (nm.map lowB))) ∧ Below W.heap.size W w') ∧ (∀ W, Calls Tryz.prog 51 #[.string (M d), .string (M [63, 62])] W fun e w' => e = .returned (.bool ib) ∧ Below W.heap.size W w') ∧ (∀ W, Calls Tryz.prog 53 #[.string (M d)] W fun e w' => e = .returned (.string (M (Lib.trimLeftS d [32, 9, 10, 13]))) ∧ Below W.heap.size W w') ∧ (∀ W, Calls Tryz.prog 51 #[.string (M d), .string (M [13])] W fun e w' => e = .returned (.bool rb) ∧ Below W.heap.size W w') from
  ⟨fun W => by rw [hpb]; exact rplain_calls nm W (by omega), fun W => rlower_calls nm W hn, fun W => by rw [hib]; exact rhas_calls d [63, 62] W hd (by simp) (by simp), fun W => rskip_calls d W, fun W => by rw [hrb, ← has13]; exact rhas_calls d [13] W hd (by simp) (by simp)⟩)
 have HCK := Lib.hid (rcheck_calls d (w.alloc (.cells #[.int .i64 3, .string (M []), .string (M nm), .slice A ([] : List At).length c, .slice B ([] : List Tr).length e, .string (M d)] 25)))
 have HLB := Lib.hid hlb
 have HSB := Lib.hid hsb
 have HB0 := Lib.hid (And.intro hb0 hbx)
 have HV := Lib.hid hval
 clear hb0 hbx hbb hpb hlb hrb hib hsb hn hd hlow hixx hval hord
 rcases @text_check d with ⟨ht, hv⟩ | ⟨ht, hv⟩
 ·rw [hv] at HCK
  have HBB := Lib.hid (show bb = (pb && (!lb && (!ib && (sb && !rb)))) by rw [HV.out, ht, Bool.true_and])
  clear ht hv HV
  go_enter Tryz.func28, Tryz.ntmps28
  go_wp2_with fail
  refine HCK.out.mono ?_
  rintro x W1 ⟨rfl, h1⟩
  have hb1 := HB0.out.1.trans (h1.mono HB0.out.1.size)
  have hx1 := HB0.out.2.below h1 HB0.out.2.lt
  clear x0 x1 x3 x4 x5
  have y0 := hx1.cell 0
  have y2 := hx1.cell 2
  have y5 := hx1.cell 5
  have KX0 := Lib.hid (show RlHeld w nm d #[.int .i64 3, .string (M []), .string (M nm), .slice A ([] : List At).length c, .slice B ([] : List Tr).length e, .string (M d)] W1 from ⟨hb1, hx1, rfl, rfl⟩)
  clear hb1 hx1 h1 HB0 HCK
  go_upto_region 9 with (fail)
  have KX := Lib.hid (rl_step KX0.out (Below.refl _ _).drew)
  refine start_ (n := 30) (S := fun w' => w'.cell? ⟨w.heap.size, 2, none⟩ = some (.string (M nm)) ∧ w'.cell? ⟨w.heap.size, 5, none⟩ = some (.string (M d))) (ds := []) (pl30 0) (by kernel_rfl) rfl rfl (rl_held KX.out) (fun hHeld => ?_)
  refine with_tabW rleaf_tab rleaf_bits (fun HT_ HW_ => ?_)
  clear KX0 y2 y5
  generalize World.drew _ = v0 at KX hHeld ⊢
  refine pu_ (i := 0) (N := some 68) (v := .pointer (some ⟨w.heap.size, 2, none⟩)) (pl30 1) rfl rfl HT_ (by kernel_rfl) (fun _ _ _ h => h) (Or.inl ⟨by rfl, fun w' => by go_simp⟩) rfl ?_
  simp only [Act.put, List.setIfInBounds_toArray, List.set_cons_zero, List.set_cons_succ]
  refine take_ (i := 1) (N := some 69) (v := .string (M nm)) (pl30 2) rfl rfl (take_ofW HT_.out HW_.out (by kernel_rfl)) (fun _ _ _ h => h) (Or.inl ⟨by rfl, fun w' hS => by obtain ⟨hs1, hs2⟩ := hS; go_simp⟩) hHeld rfl ?_
  simp only [Act.put, List.setIfInBounds_toArray, List.set_cons_zero, List.set_cons_succ]
  refine one_ (i := 2) (N := some 70) (pl30 3) rfl rfl (one_of HT_.out (by kernel_rfl)) (by decide) (fun K hK => ?_)
  refine goes_ Tryz.func29 (by kernel_rfl) rfl #[.string (M nm)] (by rfl) rfl rfl (by simp only [List.map_toArray, List.map_cons, List.map_nil]; rfl) ?_
  refine (HC.out.1 _).mono ?_
  rintro e V2 ⟨rfl, hq⟩
  have KX := Lib.hid (rl_step KX.out hq)
  refine ⟨_, rfl, ?_⟩
  refine hK.out _ _ (rl_held KX.out) (fun hHeld => ?_)
  clear hK K hq
  simp only [Act.put, List.setIfInBounds_toArray, List.set_cons_zero, List.set_cons_succ]
  refine pu_ (i := 3) (N := some 71) (v := .bool pb) (pl30 4) rfl rfl HT_ (by kernel_rfl) (fun _ _ _ h => h) (Or.inl ⟨by rfl, fun w' => by go_simp⟩) rfl ?_
  simp only [Act.put, List.setIfInBounds_toArray, List.set_cons_zero, List.set_cons_succ]
  cases pb with
  | false =>
    obtain rfl : bb = false := HBB.out
    refine pu_ (i := 4) (N := some 72) (v := undef) (pl30 5) rfl rfl HT_ (by kernel_rfl) (fun _ _ _ h => h) (Or.inr ⟨by rfl, rfl⟩) rfl ?_
    simp only [Act.put, List.setIfInBounds_toArray, List.set_cons_zero, List.set_cons_succ]
    refine pu_ (i := 5) (N := some 73) (v := undef) (pl30 6) rfl rfl HT_ (by kernel_rfl) (fun _ _ _ h => h) (Or.inr ⟨by rfl, rfl⟩) rfl ?_
    simp only [Act.put, List.setIfInBounds_toArray, List.set_cons_zero, List.set_cons_succ]
    refine pu_ (i := 6) (N := some 74) (v := undef) (pl30 7) rfl rfl HT_ (by kernel_rfl) (fun _ _ _ h => h) (Or.inr ⟨by rfl, rfl⟩) rfl ?_
    simp only [Act.put, List.setIfInBounds_toArray, List.set_cons_zero, List.set_cons_succ]
    refine pu_ (i := 7) (N := some 75) (v := undef) (pl30 8) rfl rfl HT_ (by kernel_rfl) (fun _ _ _ h => h) (Or.inr ⟨by rfl, rfl⟩) rfl ?_
    simp only [Act.put, List.setIfInBounds_toArray, List.set_cons_zero, List.set_cons_succ]
    refine pu_ (i := 8) (N := some 76) (v := .bool false) (pl30 9) rfl rfl HT_ (by kernel_rfl) (fun _ _ _ h => h) (Or.inl ⟨by rfl, fun w' => by go_simp⟩) rfl ?_
    simp only [Act.put, List.setIfInBounds_toArray, List.set_cons_zero, List.set_cons_succ]
    refine pu_ (i := 9) (N := some 77) (v := .bool false) (pl30 10) rfl rfl HT_ (by kernel_rfl) (fun _ _ _ h => h) (Or.inl ⟨by rfl, fun w' => by go_simp⟩) rfl ?_
    simp only [Act.put, List.setIfInBounds_toArray, List.set_cons_zero, List.set_cons_succ]
    refine pu_ (i := 10) (N := some 78) (v := undef) (pl30 11) rfl rfl HT_ (by kernel_rfl) (fun _ _ _ h => h) (Or.inr ⟨by rfl, rfl⟩) rfl ?_
    simp only [Act.put, List.setIfInBounds_toArray, List.set_cons_zero, List.set_cons_succ]
    refine pu_ (i := 11) (N := some 79) (v := undef) (pl30 12) rfl rfl HT_ (by kernel_rfl) (fun _ _ _ h => h) (Or.inr ⟨by rfl, rfl⟩) rfl ?_
    simp only [Act.put, List.setIfInBounds_toArray, List.set_cons_zero, List.set_cons_succ]
    refine pu_ (i := 12) (N := some 80) (v := undef) (pl30 13) rfl rfl HT_ (by kernel_rfl) (fun _ _ _ h => h) (Or.inr ⟨by rfl, rfl⟩) rfl ?_
    simp only [Act.put, List.setIfInBounds_toArray, List.set_cons_zero, List.set_cons_succ]
    refine pu_ (i := 13) (N := some 81) (v := undef) (pl30 14) rfl rfl HT_ (by kernel_rfl) (fun _ _ _ h => h) (Or.inr ⟨by rfl, rfl⟩) rfl ?_
    simp only [Act.put, List.setIfInBounds_toArray, List.set_cons_zero, List.set_cons_succ]
    refine pu_ (i := 14) (N := some 82) (v := .bool false) (pl30 15) rfl rfl HT_ (by kernel_rfl) (fun _ _ _ h => h) (Or.inl ⟨by rfl, fun w' => by go_simp⟩) rfl ?_
    simp only [Act.put, List.setIfInBounds_toArray, List.set_cons_zero, List.set_cons_succ]
    refine pu_ (i := 15) (N := some 83) (v := .bool false) (pl30 16) rfl rfl HT_ (by kernel_rfl) (fun _ _ _ h => h) (Or.inl ⟨by rfl, fun w' => by go_simp⟩) rfl ?_
    simp only [Act.put, List.setIfInBounds_toArray, List.set_cons_zero, List.set_cons_succ]
    refine pu_ (i := 16) (N := some 84) (v := undef) (pl30 17) rfl rfl HT_ (by kernel_rfl) (fun _ _ _ h => h) (Or.inr ⟨by rfl, rfl⟩) rfl ?_
    simp only [Act.put, List.setIfInBounds_toArray, List.set_cons_zero, List.set_cons_succ]
    refine pu_ (i := 17) (N := some 85) (v := undef) (pl30 18) rfl rfl HT_ (by kernel_rfl) (fun _ _ _ h => h) (Or.inr ⟨by rfl, rfl⟩) rfl ?_
    simp only [Act.put, List.setIfInBounds_toArray, List.set_cons_zero, List.set_cons_succ]
    refine pu_ (i := 18) (N := some 86) (v := undef) (pl30 19) rfl rfl HT_ (by kernel_rfl) (fun _ _ _ h => h) (Or.inr ⟨by rfl, rfl⟩) rfl ?_
    simp only [Act.put, List.setIfInBounds_toArray, List.set_cons_zero, List.set_cons_succ]
    refine pu_ (i := 19) (N := some 87) (v := undef) (pl30 20) rfl rfl HT_ (by kernel_rfl) (fun _ _ _ h => h) (Or.inr ⟨by rfl, rfl⟩) rfl ?_
    simp only [Act.put, List.setIfInBounds_toArray, List.set_cons_zero, List.set_cons_succ]
    refine pu_ (i := 20) (N := some 88) (v := undef) (pl30 21) rfl rfl HT_ (by kernel_rfl) (fun _ _ _ h => h) (Or.inr ⟨by rfl, rfl⟩) rfl ?_
    simp only [Act.put, List.setIfInBounds_toArray, List.set_cons_zero, List.set_cons_succ]
    refine pu_ (i := 21) (N := some 89) (v := undef) (pl30 22) rfl rfl HT_ (by kernel_rfl) (fun _ _ _ h => h) (Or.inr ⟨by rfl, rfl⟩) rfl ?_
    simp only [Act.put, List.setIfInBounds_toArray, List.set_cons_zero, List.set_cons_succ]
    refine pu_ (i := 22) (N := some 90) (v := .bool false) (pl30 23) rfl rfl HT_ (by kernel_rfl) (fun _ _ _ h => h) (Or.inl ⟨by rfl, fun w' => by go_simp⟩) rfl ?_
    simp only [Act.put, List.setIfInBounds_toArray, List.set_cons_zero, List.set_cons_succ]
    refine pu_ (i := 23) (N := some 91) (v := .bool false) (pl30 24) rfl rfl HT_ (by kernel_rfl) (fun _ _ _ h => h) (Or.inl ⟨by rfl, fun w' => by go_simp⟩) rfl ?_
    simp only [Act.put, List.setIfInBounds_toArray, List.set_cons_zero, List.set_cons_succ]
    refine pu_ (i := 24) (N := some 92) (v := undef) (pl30 25) rfl rfl HT_ (by kernel_rfl) (fun _ _ _ h => h) (Or.inr ⟨by rfl, rfl⟩) rfl ?_
    simp only [Act.put, List.setIfInBounds_toArray, List.set_cons_zero, List.set_cons_succ]
    refine pu_ (i := 25) (N := some 93) (v := undef) (pl30 26) rfl rfl HT_ (by kernel_rfl) (fun _ _ _ h => h) (Or.inr ⟨by rfl, rfl⟩) rfl ?_
    simp only [Act.put, List.setIfInBounds_toArray, List.set_cons_zero, List.set_cons_succ]
    refine pu_ (i := 26) (N := some 94) (v := undef) (pl30 27) rfl rfl HT_ (by kernel_rfl) (fun _ _ _ h => h) (Or.inr ⟨by rfl, rfl⟩) rfl ?_
    simp only [Act.put, List.setIfInBounds_toArray, List.set_cons_zero, List.set_cons_succ]
    refine pu_ (i := 27) (N := some 95) (v := undef) (pl30 28) rfl rfl HT_ (by kernel_rfl) (fun _ _ _ h => h) (Or.inr ⟨by rfl, rfl⟩) rfl ?_
    simp only [Act.put, List.setIfInBounds_toArray, List.set_cons_zero, List.set_cons_succ]
    refine pu_ (i := 28) (N := some 96) (v := .bool false) (pl30 29) rfl rfl HT_ (by kernel_rfl) (fun _ _ _ h => h) (Or.inl ⟨by rfl, fun w' => by go_simp⟩) rfl ?_
    simp only [Act.put, List.setIfInBounds_toArray, List.set_cons_zero, List.set_cons_succ]
    refine pu_ (i := 29) (N := some 2) (v := .bool false) (pl30 30) rfl rfl HT_ (by kernel_rfl) (fun _ _ _ h => h) (Or.inl ⟨by rfl, fun w' => by go_simp⟩) rfl ?_
    simp only [Act.put, List.setIfInBounds_toArray, List.set_cons_zero, List.set_cons_succ]
    refine done_ (done_of HT_.out (by kernel_rfl)) ?_
    go_wp2
    go_ret
    exact ⟨rfl, KX.out.1⟩
  | true =>
    refine pu_ (i := 4) (N := some 72) (v := .pointer (some ⟨w.heap.size, 2, none⟩)) (pl30 5) rfl rfl HT_ (by kernel_rfl) (fun _ _ _ h => h) (Or.inl ⟨by rfl, fun w' => by go_simp⟩) rfl ?_
    simp only [Act.put, List.setIfInBounds_toArray, List.set_cons_zero, List.set_cons_succ]
    refine take_ (i := 5) (N := some 73) (v := .string (M nm)) (pl30 6) rfl rfl (take_ofW HT_.out HW_.out (by kernel_rfl)) (fun _ _ _ h => h) (Or.inl ⟨by rfl, fun w' hS => by obtain ⟨hs1, hs2⟩ := hS; go_simp⟩) hHeld rfl ?_
    simp only [Act.put, List.setIfInBounds_toArray, List.set_cons_zero, List.set_cons_succ]
    refine one_ (i := 6) (N := some 74) (pl30 7) rfl rfl (one_of HT_.out (by kernel_rfl)) (by decide) (fun K hK => ?_)
    refine goes_ Tryz.func52 (by kernel_rfl) rfl #[.string (M nm)] (by rfl) rfl rfl (by simp only [List.map_toArray, List.map_cons, List.map_nil]; rfl) ?_
    refine (HC.out.2.1 _).mono ?_
    rintro e V6 ⟨rfl, hq⟩
    have KX := Lib.hid (rl_step KX.out hq)
    refine ⟨_, rfl, ?_⟩
    refine hK.out _ _ (rl_held KX.out) (fun hHeld => ?_)
    clear hK K hq
    simp only [Act.put, List.setIfInBounds_toArray, List.set_cons_zero, List.set_cons_succ]
    cases lb with
    | true =>
      obtain rfl : bb = false := HBB.out
      have hlw : nm.map lowB = [120, 109, 108] := eq_of_beq HLB.out
      rw [hlw]
      clear hlw
      refine pu_ (i := 7) (N := some 75) (v := .bool false) (pl30 8) rfl rfl HT_ (by kernel_rfl) (fun _ _ _ h => h) (Or.inl ⟨by rfl, fun w' => by go_simp⟩) rfl ?_
      simp only [Act.put, List.setIfInBounds_toArray, List.set_cons_zero, List.set_cons_succ]
      refine pu_ (i := 8) (N := some 76) (v := .bool false) (pl30 9) rfl rfl HT_ (by kernel_rfl) (fun _ _ _ h => h) (Or.inl ⟨by rfl, fun w' => by go_simp⟩) rfl ?_
      simp only [Act.put, List.setIfInBounds_toArray, List.set_cons_zero, List.set_cons_succ]
      refine pu_ (i := 9) (N := some 77) (v := .bool false) (pl30 10) rfl rfl HT_ (by kernel_rfl) (fun _ _ _ h => h) (Or.inl ⟨by rfl, fun w' => by go_simp⟩) rfl ?_
      simp only [Act.put, List.setIfInBounds_toArray, List.set_cons_zero, List.set_cons_succ]
      refine pu_ (i := 10) (N := some 78) (v := undef) (pl30 11) rfl rfl HT_ (by kernel_rfl) (fun _ _ _ h => h) (Or.inr ⟨by rfl, rfl⟩) rfl ?_
      simp only [Act.put, List.setIfInBounds_toArray, List.set_cons_zero, List.set_cons_succ]
      refine pu_ (i := 11) (N := some 79) (v := undef) (pl30 12) rfl rfl HT_ (by kernel_rfl) (fun _ _ _ h => h) (Or.inr ⟨by rfl, rfl⟩) rfl ?_
      simp only [Act.put, List.setIfInBounds_toArray, List.set_cons_zero, List.set_cons_succ]
      refine pu_ (i := 12) (N := some 80) (v := undef) (pl30 13) rfl rfl HT_ (by kernel_rfl) (fun _ _ _ h => h) (Or.inr ⟨by rfl, rfl⟩) rfl ?_
      simp only [Act.put, List.setIfInBounds_toArray, List.set_cons_zero, List.set_cons_succ]
      refine pu_ (i := 13) (N := some 81) (v := undef) (pl30 14) rfl rfl HT_ (by kernel_rfl) (fun _ _ _ h => h) (Or.inr ⟨by rfl, rfl⟩) rfl ?_
      simp only [Act.put, List.setIfInBounds_toArray, List.set_cons_zero, List.set_cons_succ]
      refine pu_ (i := 14) (N := some 82) (v := .bool false) (pl30 15) rfl rfl HT_ (by kernel_rfl) (fun _ _ _ h => h) (Or.inl ⟨by rfl, fun w' => by go_simp⟩) rfl ?_
      simp only [Act.put, List.setIfInBounds_toArray, List.set_cons_zero, List.set_cons_succ]
      refine pu_ (i := 15) (N := some 83) (v := .bool false) (pl30 16) rfl rfl HT_ (by kernel_rfl) (fun _ _ _ h => h) (Or.inl ⟨by rfl, fun w' => by go_simp⟩) rfl ?_
      simp only [Act.put, List.setIfInBounds_toArray, List.set_cons_zero, List.set_cons_succ]
      refine pu_ (i := 16) (N := some 84) (v := undef) (pl30 17) rfl rfl HT_ (by kernel_rfl) (fun _ _ _ h => h) (Or.inr ⟨by rfl, rfl⟩) rfl ?_
      simp only [Act.put, List.setIfInBounds_toArray, List.set_cons_zero, List.set_cons_succ]
      refine pu_ (i := 17) (N := some 85) (v := undef) (pl30 18) rfl rfl HT_ (by kernel_rfl) (fun _ _ _ h => h) (Or.inr ⟨by rfl, rfl⟩) rfl ?_
      simp only [Act.put, List.setIfInBounds_toArray, List.set_cons_zero, List.set_cons_succ]
      refine pu_ (i := 18) (N := some 86) (v := undef) (pl30 19) rfl rfl HT_ (by kernel_rfl) (fun _ _ _ h => h) (Or.inr ⟨by rfl, rfl⟩) rfl ?_
      simp only [Act.put, List.setIfInBounds_toArray, List.set_cons_zero, List.set_cons_succ]
      refine pu_ (i := 19) (N := some 87) (v := undef) (pl30 20) rfl rfl HT_ (by kernel_rfl) (fun _ _ _ h => h) (Or.inr ⟨by rfl, rfl⟩) rfl ?_
      simp only [Act.put, List.setIfInBounds_toArray, List.set_cons_zero, List.set_cons_succ]
      refine pu_ (i := 20) (N := some 88) (v := undef) (pl30 21) rfl rfl HT_ (by kernel_rfl) (fun _ _ _ h => h) (Or.inr ⟨by rfl, rfl⟩) rfl ?_
      simp only [Act.put, List.setIfInBounds_toArray, List.set_cons_zero, List.set_cons_succ]
      refine pu_ (i := 21) (N := some 89) (v := undef) (pl30 22) rfl rfl HT_ (by kernel_rfl) (fun _ _ _ h => h) (Or.inr ⟨by rfl, rfl⟩) rfl ?_
      simp only [Act.put, List.setIfInBounds_toArray, List.set_cons_zero, List.set_cons_succ]
      refine pu_ (i := 22) (N := some 90) (v := .bool false) (pl30 23) rfl rfl HT_ (by kernel_rfl) (fun _ _ _ h => h) (Or.inl ⟨by rfl, fun w' => by go_simp⟩) rfl ?_
      simp only [Act.put, List.setIfInBounds_toArray, List.set_cons_zero, List.set_cons_succ]
      refine pu_ (i := 23) (N := some 91) (v := .bool false) (pl30 24) rfl rfl HT_ (by kernel_rfl) (fun _ _ _ h => h) (Or.inl ⟨by rfl, fun w' => by go_simp⟩) rfl ?_
      simp only [Act.put, List.setIfInBounds_toArray, List.set_cons_zero, List.set_cons_succ]
      refine pu_ (i := 24) (N := some 92) (v := undef) (pl30 25) rfl rfl HT_ (by kernel_rfl) (fun _ _ _ h => h) (Or.inr ⟨by rfl, rfl⟩) rfl ?_
      simp only [Act.put, List.setIfInBounds_toArray, List.set_cons_zero, List.set_cons_succ]
      refine pu_ (i := 25) (N := some 93) (v := undef) (pl30 26) rfl rfl HT_ (by kernel_rfl) (fun _ _ _ h => h) (Or.inr ⟨by rfl, rfl⟩) rfl ?_
      simp only [Act.put, List.setIfInBounds_toArray, List.set_cons_zero, List.set_cons_succ]
      refine pu_ (i := 26) (N := some 94) (v := undef) (pl30 27) rfl rfl HT_ (by kernel_rfl) (fun _ _ _ h => h) (Or.inr ⟨by rfl, rfl⟩) rfl ?_
      simp only [Act.put, List.setIfInBounds_toArray, List.set_cons_zero, List.set_cons_succ]
      refine pu_ (i := 27) (N := some 95) (v := undef) (pl30 28) rfl rfl HT_ (by kernel_rfl) (fun _ _ _ h => h) (Or.inr ⟨by rfl, rfl⟩) rfl ?_
      simp only [Act.put, List.setIfInBounds_toArray, List.set_cons_zero, List.set_cons_succ]
      refine pu_ (i := 28) (N := some 96) (v := .bool false) (pl30 29) rfl rfl HT_ (by kernel_rfl) (fun _ _ _ h => h) (Or.inl ⟨by rfl, fun w' => by go_simp⟩) rfl ?_
      simp only [Act.put, List.setIfInBounds_toArray, List.set_cons_zero, List.set_cons_succ]
      refine pu_ (i := 29) (N := some 2) (v := .bool false) (pl30 30) rfl rfl HT_ (by kernel_rfl) (fun _ _ _ h => h) (Or.inl ⟨by rfl, fun w' => by go_simp⟩) rfl ?_
      simp only [Act.put, List.setIfInBounds_toArray, List.set_cons_zero, List.set_cons_succ]
      refine done_ (done_of HT_.out (by kernel_rfl)) ?_
      go_wp2
      go_ret
      exact ⟨rfl, KX.out.1⟩
    | false =>
      have hlw : ¬ nm.map lowB = [120, 109, 108] := by have := HLB.out; simpa using this
      generalize nm.map lowB = lnm at hlw ⊢
      refine pu_ (i := 7) (N := some 75) (v := .bool true) (pl30 8) rfl rfl HT_ (by kernel_rfl) (fun _ _ _ h => h) (Or.inl ⟨by rfl, fun w' => by go_simp⟩) rfl ?_
      simp only [Act.put, List.setIfInBounds_toArray, List.set_cons_zero, List.set_cons_succ]
      clear hlw
      refine pu_ (i := 8) (N := some 76) (v := .bool true) (pl30 9) rfl rfl HT_ (by kernel_rfl) (fun _ _ _ h => h) (Or.inl ⟨by rfl, fun w' => by go_simp⟩) rfl ?_
      simp only [Act.put, List.setIfInBounds_toArray, List.set_cons_zero, List.set_cons_succ]
      refine pu_ (i := 9) (N := some 77) (v := .bool true) (pl30 10) rfl rfl HT_ (by kernel_rfl) (fun _ _ _ h => h) (Or.inl ⟨by rfl, fun w' => by go_simp⟩) rfl ?_
      simp only [Act.put, List.setIfInBounds_toArray, List.set_cons_zero, List.set_cons_succ]
      refine pu_ (i := 10) (N := some 78) (v := .pointer (some ⟨w.heap.size, 5, none⟩)) (pl30 11) rfl rfl HT_ (by kernel_rfl) (fun _ _ _ h => h) (Or.inl ⟨by rfl, fun w' => by go_simp⟩) rfl ?_
      simp only [Act.put, List.setIfInBounds_toArray, List.set_cons_zero, List.set_cons_succ]
      refine take_ (i := 11) (N := some 79) (v := .string (M d)) (pl30 12) rfl rfl (take_ofW HT_.out HW_.out (by kernel_rfl)) (fun _ _ _ h => h) (Or.inl ⟨by rfl, fun w' hS => by obtain ⟨hs1, hs2⟩ := hS; go_simp⟩) hHeld rfl ?_
      simp only [Act.put, List.setIfInBounds_toArray, List.set_cons_zero, List.set_cons_succ]
      refine one_ (i := 12) (N := some 80) (pl30 13) rfl rfl (one_of HT_.out (by kernel_rfl)) (by decide) (fun K hK => ?_)
      refine goes_ Tryz.func51 (by kernel_rfl) rfl #[.string (M d), .string (M [63, 62])] (by rfl) rfl rfl (by simp only [List.map_toArray, List.map_cons, List.map_nil]; rfl) ?_
      refine (HC.out.2.2.1 _).mono ?_
      rintro e V12 ⟨rfl, hq⟩
      have KX := Lib.hid (rl_step KX.out hq)
      refine ⟨_, rfl, ?_⟩
      refine hK.out _ _ (rl_held KX.out) (fun hHeld => ?_)
      clear hK K hq
      simp only [Act.put, List.setIfInBounds_toArray, List.set_cons_zero, List.set_cons_succ]
      refine pu_ (i := 13) (N := some 81) (v := .bool (!ib)) (pl30 14) rfl rfl HT_ (by kernel_rfl) (fun _ _ _ h => h) (Or.inl ⟨by rfl, fun w' => by go_simp⟩) rfl ?_
      simp only [Act.put, List.setIfInBounds_toArray, List.set_cons_zero, List.set_cons_succ]
      cases ib with
      | true =>
        obtain rfl : bb = false := HBB.out
        refine pu_ (i := 14) (N := some 82) (v := .bool false) (pl30 15) rfl rfl HT_ (by kernel_rfl) (fun _ _ _ h => h) (Or.inl ⟨by rfl, fun w' => by go_simp⟩) rfl ?_
        simp only [Act.put, List.setIfInBounds_toArray, List.set_cons_zero, List.set_cons_succ]
        refine pu_ (i := 15) (N := some 83) (v := .bool false) (pl30 16) rfl rfl HT_ (by kernel_rfl) (fun _ _ _ h => h) (Or.inl ⟨by rfl, fun w' => by go_simp⟩) rfl ?_
        simp only [Act.put, List.setIfInBounds_toArray, List.set_cons_zero, List.set_cons_succ]
        refine pu_ (i := 16) (N := some 84) (v := undef) (pl30 17) rfl rfl HT_ (by kernel_rfl) (fun _ _ _ h => h) (Or.inr ⟨by rfl, rfl⟩) rfl ?_
        simp only [Act.put, List.setIfInBounds_toArray, List.set_cons_zero, List.set_cons_succ]
        refine pu_ (i := 17) (N := some 85) (v := undef) (pl30 18) rfl rfl HT_ (by kernel_rfl) (fun _ _ _ h => h) (Or.inr ⟨by rfl, rfl⟩) rfl ?_
        simp only [Act.put, List.setIfInBounds_toArray, List.set_cons_zero, List.set_cons_succ]
        refine pu_ (i := 18) (N := some 86) (v := undef) (pl30 19) rfl rfl HT_ (by kernel_rfl) (fun _ _ _ h => h) (Or.inr ⟨by rfl, rfl⟩) rfl ?_
        simp only [Act.put, List.setIfInBounds_toArray, List.set_cons_zero, List.set_cons_succ]
        refine pu_ (i := 19) (N := some 87) (v := undef) (pl30 20) rfl rfl HT_ (by kernel_rfl) (fun _ _ _ h => h) (Or.inr ⟨by rfl, rfl⟩) rfl ?_
        simp only [Act.put, List.setIfInBounds_toArray, List.set_cons_zero, List.set_cons_succ]
        refine pu_ (i := 20) (N := some 88) (v := undef) (pl30 21) rfl rfl HT_ (by kernel_rfl) (fun _ _ _ h => h) (Or.inr ⟨by rfl, rfl⟩) rfl ?_
        simp only [Act.put, List.setIfInBounds_toArray, List.set_cons_zero, List.set_cons_succ]
        refine pu_ (i := 21) (N := some 89) (v := undef) (pl30 22) rfl rfl HT_ (by kernel_rfl) (fun _ _ _ h => h) (Or.inr ⟨by rfl, rfl⟩) rfl ?_
        simp only [Act.put, List.setIfInBounds_toArray, List.set_cons_zero, List.set_cons_succ]
        refine pu_ (i := 22) (N := some 90) (v := .bool false) (pl30 23) rfl rfl HT_ (by kernel_rfl) (fun _ _ _ h => h) (Or.inl ⟨by rfl, fun w' => by go_simp⟩) rfl ?_
        simp only [Act.put, List.setIfInBounds_toArray, List.set_cons_zero, List.set_cons_succ]
        refine pu_ (i := 23) (N := some 91) (v := .bool false) (pl30 24) rfl rfl HT_ (by kernel_rfl) (fun _ _ _ h => h) (Or.inl ⟨by rfl, fun w' => by go_simp⟩) rfl ?_
        simp only [Act.put, List.setIfInBounds_toArray, List.set_cons_zero, List.set_cons_succ]
        refine pu_ (i := 24) (N := some 92) (v := undef) (pl30 25) rfl rfl HT_ (by kernel_rfl) (fun _ _ _ h => h) (Or.inr ⟨by rfl, rfl⟩) rfl ?_
        simp only [Act.put, List.setIfInBounds_toArray, List.set_cons_zero, List.set_cons_succ]
        refine pu_ (i := 25) (N := some 93) (v := undef) (pl30 26) rfl rfl HT_ (by kernel_rfl) (fun _ _ _ h => h) (Or.inr ⟨by rfl, rfl⟩) rfl ?_
        simp only [Act.put, List.setIfInBounds_toArray, List.set_cons_zero, List.set_cons_succ]
        refine pu_ (i := 26) (N := some 94) (v := undef) (pl30 27) rfl rfl HT_ (by kernel_rfl) (fun _ _ _ h => h) (Or.inr ⟨by rfl, rfl⟩) rfl ?_
        simp only [Act.put, List.setIfInBounds_toArray, List.set_cons_zero, List.set_cons_succ]
        refine pu_ (i := 27) (N := some 95) (v := undef) (pl30 28) rfl rfl HT_ (by kernel_rfl) (fun _ _ _ h => h) (Or.inr ⟨by rfl, rfl⟩) rfl ?_
        simp only [Act.put, List.setIfInBounds_toArray, List.set_cons_zero, List.set_cons_succ]
        refine pu_ (i := 28) (N := some 96) (v := .bool false) (pl30 29) rfl rfl HT_ (by kernel_rfl) (fun _ _ _ h => h) (Or.inl ⟨by rfl, fun w' => by go_simp⟩) rfl ?_
        simp only [Act.put, List.setIfInBounds_toArray, List.set_cons_zero, List.set_cons_succ]
        refine pu_ (i := 29) (N := some 2) (v := .bool false) (pl30 30) rfl rfl HT_ (by kernel_rfl) (fun _ _ _ h => h) (Or.inl ⟨by rfl, fun w' => by go_simp⟩) rfl ?_
        simp only [Act.put, List.setIfInBounds_toArray, List.set_cons_zero, List.set_cons_succ]
        refine done_ (done_of HT_.out (by kernel_rfl)) ?_
        go_wp2
        go_ret
        exact ⟨rfl, KX.out.1⟩
      | false =>
        refine pu_ (i := 14) (N := some 82) (v := .bool true) (pl30 15) rfl rfl HT_ (by kernel_rfl) (fun _ _ _ h => h) (Or.inl ⟨by rfl, fun w' => by go_simp⟩) rfl ?_
        simp only [Act.put, List.setIfInBounds_toArray, List.set_cons_zero, List.set_cons_succ]
        refine pu_ (i := 15) (N := some 83) (v := .bool true) (pl30 16) rfl rfl HT_ (by kernel_rfl) (fun _ _ _ h => h) (Or.inl ⟨by rfl, fun w' => by go_simp⟩) rfl ?_
        simp only [Act.put, List.setIfInBounds_toArray, List.set_cons_zero, List.set_cons_succ]
        refine pu_ (i := 16) (N := some 84) (v := .pointer (some ⟨w.heap.size, 5, none⟩)) (pl30 17) rfl rfl HT_ (by kernel_rfl) (fun _ _ _ h => h) (Or.inl ⟨by rfl, fun w' => by go_simp⟩) rfl ?_
        simp only [Act.put, List.setIfInBounds_toArray, List.set_cons_zero, List.set_cons_succ]
        refine take_ (i := 17) (N := some 85) (v := .string (M d)) (pl30 18) rfl rfl (take_ofW HT_.out HW_.out (by kernel_rfl)) (fun _ _ _ h => h) (Or.inl ⟨by rfl, fun w' hS => by obtain ⟨hs1, hs2⟩ := hS; go_simp⟩) hHeld rfl ?_
        simp only [Act.put, List.setIfInBounds_toArray, List.set_cons_zero, List.set_cons_succ]
        refine pu_ (i := 19) (N := some 87) (v := .pointer (some ⟨w.heap.size, 5, none⟩)) #[true, true, true, true, true, true, true, true, true, true, true, true, true, true, true, true, true, true, false, true, false, false, false, false, false, false, false, false, false, false] rfl rfl HT_ (by kernel_rfl) (fun _ _ _ h => h) (Or.inl ⟨by rfl, fun w' => by go_simp⟩) rfl ?_
        simp only [Act.put, List.setIfInBounds_toArray, List.set_cons_zero, List.set_cons_succ]
        refine take_ (i := 20) (N := some 88) (v := .string (M d)) #[true, true, true, true, true, true, true, true, true, true, true, true, true, true, true, true, true, true, false, true, true, false, false, false, false, false, false, false, false, false] rfl rfl (take_ofW HT_.out HW_.out (by kernel_rfl)) (fun _ _ _ h => h) (Or.inl ⟨by rfl, fun w' hS => by obtain ⟨hs1, hs2⟩ := hS; go_simp⟩) hHeld rfl ?_
        simp only [Act.put, List.setIfInBounds_toArray, List.set_cons_zero, List.set_cons_succ]
        refine one_ (i := 18) (N := some 86) (pl30 21) rfl rfl (one_of HT_.out (by kernel_rfl)) (by decide) (fun K hK => ?_)
        refine goes_ Tryz.func53 (by kernel_rfl) rfl #[.string (M d)] (by rfl) rfl rfl (by simp only [List.map_toArray, List.map_cons, List.map_nil]; rfl) ?_
        refine (HC.out.2.2.2.1 _).mono ?_
        rintro e V18 ⟨rfl, hq⟩
        have KX := Lib.hid (rl_step KX.out hq)
        refine ⟨_, rfl, ?_⟩
        refine hK.out _ _ (rl_held KX.out) (fun hHeld => ?_)
        clear hK K hq
        simp only [Act.put, List.setIfInBounds_toArray, List.set_cons_zero, List.set_cons_succ]
        cases sb with
        | false =>
          obtain rfl : bb = false := HBB.out
          have hne : ¬ Lib.trimLeftS d [32, 9, 10, 13] = d := by have := HSB.out; simpa using this
          generalize Lib.trimLeftS d [32, 9, 10, 13] = td at hne ⊢
          refine pu_ (i := 21) (N := some 89) (v := .bool false) (pl30 22) rfl rfl HT_ (by kernel_rfl) (fun _ _ _ h => h) (Or.inl ⟨by rfl, fun w' => by go_simp⟩) rfl ?_
          simp only [Act.put, List.setIfInBounds_toArray, List.set_cons_zero, List.set_cons_succ]
          refine pu_ (i := 22) (N := some 90) (v := .bool false) (pl30 23) rfl rfl HT_ (by kernel_rfl) (fun _ _ _ h => h) (Or.inl ⟨by rfl, fun w' => by go_simp⟩) rfl ?_
          simp only [Act.put, List.setIfInBounds_toArray, List.set_cons_zero, List.set_cons_succ]
          refine pu_ (i := 23) (N := some 91) (v := .bool false) (pl30 24) rfl rfl HT_ (by kernel_rfl) (fun _ _ _ h => h) (Or.inl ⟨by rfl, fun w' => by go_simp⟩) rfl ?_
          simp only [Act.put, List.setIfInBounds_toArray, List.set_cons_zero, List.set_cons_succ]
          refine pu_ (i := 24) (N := some 92) (v := undef) (pl30 25) rfl rfl HT_ (by kernel_rfl) (fun _ _ _ h => h) (Or.inr ⟨by rfl, rfl⟩) rfl ?_
          simp only [Act.put, List.setIfInBounds_toArray, List.set_cons_zero, List.set_cons_succ]
          refine pu_ (i := 25) (N := some 93) (v := undef) (pl30 26) rfl rfl HT_ (by kernel_rfl) (fun _ _ _ h => h) (Or.inr ⟨by rfl, rfl⟩) rfl ?_
          simp only [Act.put, List.setIfInBounds_toArray, List.set_cons_zero, List.set_cons_succ]
          refine pu_ (i := 26) (N := some 94) (v := undef) (pl30 27) rfl rfl HT_ (by kernel_rfl) (fun _ _ _ h => h) (Or.inr ⟨by rfl, rfl⟩) rfl ?_
          simp only [Act.put, List.setIfInBounds_toArray, List.set_cons_zero, List.set_cons_succ]
          refine pu_ (i := 27) (N := some 95) (v := undef) (pl30 28) rfl rfl HT_ (by kernel_rfl) (fun _ _ _ h => h) (Or.inr ⟨by rfl, rfl⟩) rfl ?_
          simp only [Act.put, List.setIfInBounds_toArray, List.set_cons_zero, List.set_cons_succ]
          refine pu_ (i := 28) (N := some 96) (v := .bool false) (pl30 29) rfl rfl HT_ (by kernel_rfl) (fun _ _ _ h => h) (Or.inl ⟨by rfl, fun w' => by go_simp⟩) rfl ?_
          simp only [Act.put, List.setIfInBounds_toArray, List.set_cons_zero, List.set_cons_succ]
          refine pu_ (i := 29) (N := some 2) (v := .bool false) (pl30 30) rfl rfl HT_ (by kernel_rfl) (fun _ _ _ h => h) (Or.inl ⟨by rfl, fun w' => by go_simp⟩) rfl ?_
          simp only [Act.put, List.setIfInBounds_toArray, List.set_cons_zero, List.set_cons_succ]
          refine done_ (done_of HT_.out (by kernel_rfl)) ?_
          go_wp2
          go_ret
          exact ⟨rfl, KX.out.1⟩
        | true =>
          obtain rfl : bb = !rb := HBB.out
          rw [eq_of_beq HSB.out]
          refine pu_ (i := 21) (N := some 89) (v := .bool true) (pl30 22) rfl rfl HT_ (by kernel_rfl) (fun _ _ _ h => h) (Or.inl ⟨by rfl, fun w' => by go_simp⟩) rfl ?_
          simp only [Act.put, List.setIfInBounds_toArray, List.set_cons_zero, List.set_cons_succ]
          refine pu_ (i := 22) (N := some 90) (v := .bool true) (pl30 23) rfl rfl HT_ (by kernel_rfl) (fun _ _ _ h => h) (Or.inl ⟨by rfl, fun w' => by go_simp⟩) rfl ?_
          simp only [Act.put, List.setIfInBounds_toArray, List.set_cons_zero, List.set_cons_succ]
          refine pu_ (i := 23) (N := some 91) (v := .bool true) (pl30 24) rfl rfl HT_ (by kernel_rfl) (fun _ _ _ h => h) (Or.inl ⟨by rfl, fun w' => by go_simp⟩) rfl ?_
          simp only [Act.put, List.setIfInBounds_toArray, List.set_cons_zero, List.set_cons_succ]
          refine pu_ (i := 24) (N := some 92) (v := .pointer (some ⟨w.heap.size, 5, none⟩)) (pl30 25) rfl rfl HT_ (by kernel_rfl) (fun _ _ _ h => h) (Or.inl ⟨by rfl, fun w' => by go_simp⟩) rfl ?_
          simp only [Act.put, List.setIfInBounds_toArray, List.set_cons_zero, List.set_cons_succ]
          refine take_ (i := 25) (N := some 93) (v := .string (M d)) (pl30 26) rfl rfl (take_ofW HT_.out HW_.out (by kernel_rfl)) (fun _ _ _ h => h) (Or.inl ⟨by rfl, fun w' hS => by obtain ⟨hs1, hs2⟩ := hS; go_simp⟩) hHeld rfl ?_
          simp only [Act.put, List.setIfInBounds_toArray, List.set_cons_zero, List.set_cons_succ]
          refine one_ (i := 26) (N := some 94) (pl30 27) rfl rfl (one_of HT_.out (by kernel_rfl)) (by decide) (fun K hK => ?_)
          refine goes_ Tryz.func51 (by kernel_rfl) rfl #[.string (M d), .string (M [13])] (by rfl) rfl rfl (by simp only [List.map_toArray, List.map_cons, List.map_nil]; rfl) ?_
          refine (HC.out.2.2.2.2 _).mono ?_
          rintro e V26 ⟨rfl, hq⟩
          have KX := Lib.hid (rl_step KX.out hq)
          refine ⟨_, rfl, ?_⟩
          refine hK.out _ _ (rl_held KX.out) (fun hHeld => ?_)
          clear hK K hq
          simp only [Act.put, List.setIfInBounds_toArray, List.set_cons_zero, List.set_cons_succ]
          refine pu_ (i := 27) (N := some 95) (v := .bool (!rb)) (pl30 28) rfl rfl HT_ (by kernel_rfl) (fun _ _ _ h => h) (Or.inl ⟨by rfl, fun w' => by go_simp⟩) rfl ?_
          simp only [Act.put, List.setIfInBounds_toArray, List.set_cons_zero, List.set_cons_succ]
          refine pu_ (i := 28) (N := some 96) (v := .bool (!rb)) (pl30 29) rfl rfl HT_ (by kernel_rfl) (fun _ _ _ h => h) (Or.inl ⟨by rfl, fun w' => by go_simp⟩) rfl ?_
          simp only [Act.put, List.setIfInBounds_toArray, List.set_cons_zero, List.set_cons_succ]
          refine pu_ (i := 29) (N := some 2) (v := .bool (!rb)) (pl30 30) rfl rfl HT_ (by kernel_rfl) (fun _ _ _ h => h) (Or.inl ⟨by rfl, fun w' => by go_simp⟩) rfl ?_
          simp only [Act.put, List.setIfInBounds_toArray, List.set_cons_zero, List.set_cons_succ]
          refine done_ (done_of HT_.out (by kernel_rfl)) ?_
          go_wp2
          go_ret
          exact ⟨rfl, KX.out.1⟩
 ·obtain rfl : bb = false := by rw [HV.out, ht]; rfl
  generalize U.checkL d.length d = cv at HCK hv
  clear ht HV
  go_enter Tryz.func28, Tryz.ntmps28
  go_wp2_with fail
  refine HCK.out.mono ?_
  rintro x W1 ⟨rfl, h1⟩
  have hb1 := HB0.out.1.trans (h1.mono HB0.out.1.size)
  clear x0 x1 x3 x4 x5
  go_wp2
  go_ret
  exact ⟨rfl, hb1⟩
end Go.Proofs.YtadgeghipimfiaaGreatDoor.X
end
section
namespace Go.Proofs.YtadgeghipimfiaaGreatDoor.X
open Go.RowKit Go.Shelf Go.Proofs.YtadgeghipimfiaaGreatDoorW.PrintWords Go.Proofs.YtadgeghipimfiaaGreatDoor.F Go.Proofs.YtadgeghipimfiaaGreatDoor.Pg Go.Proofs.YtadgeghipimfiaaGreatDoor.Z Go.Proofs.YtadgeghipimfiaaGreatDoorW.PrintLast
set_option linter.unusedVariables false
set_option linter.unusedSimpArgs false
set_option maxRecDepth 100000 in
set_option maxHeartbeats 4000000 in
theorem rleaf_calls {k : Int} {sp nm d : Bs} {at_ : List At} {kids : List Tr} {A B : Option Addr} {c e : Nat} (w : World) (hn : nm.length < 140737488355328) (hd : d.length < 140737488355328) (hat : at_.length < 140737488355328) (hkl : kids.length < 140737488355328) :
  Calls Tryz.prog 28 #[.agg #[.int .i64 k, .string (M sp), .string (M nm), .slice A at_.length c, .slice B kids.length e, .string (M d)]] w fun x w' => x = .returned (.bool (leafOk (.mk k sp nm at_ kids d))) ∧ Below w.heap.size w w' := by
 have hb0 : Below w.heap.size w (w.alloc (.cells #[.int .i64 k, .string (M sp), .string (M nm), .slice A at_.length c, .slice B kids.length e, .string (M d)] 25)) := (Below.refl _ _).alloc (Nat.le_refl _) _
 have hbx := Blk.new w #[.int .i64 k, .string (M sp), .string (M nm), .slice A at_.length c, .slice B kids.length e, .string (M d)] 25
 have x1 := hbx.cell 1
 have x3 := hbx.cell 3
 have x4 := hbx.cell 4
 have x5 := hbx.cell 5
 obtain ⟨bb, hbb⟩ : ∃ bb, bb = leafOk (.mk k sp nm at_ kids d) := ⟨_, rfl⟩
 rw [← hbb]
 rw [leafOk_kind] at hbb
 by_cases h1 : sp = []
 ·subst h1
  by_cases h2 : at_.length + kids.length = 0
  ·obtain rfl : at_ = [] := List.eq_nil_of_length_eq_zero (by omega)
   obtain rfl : kids = [] := List.eq_nil_of_length_eq_zero (by omega)
   by_cases k3 : k = 3
   ·subst k3
    rw [hbb, ← leafOk_kind]
    exact rleaf_pi w hn hd
   ·have HCK := Lib.hid (rcheck_calls d (w.alloc (.cells #[.int .i64 k, .string (M []), .string (M nm), .slice A ([] : List At).length c, .slice B ([] : List Tr).length e, .string (M d)] 25)))
    have HB0 := Lib.hid (And.intro hb0 hbx)
    have HV := Lib.hid hbb
    have HD := Lib.hid hd
    clear hb0 hbx hbb hd hat hkl h2 hn
    rcases @text_check d with ⟨ht, hv⟩ | ⟨ht, hv⟩
    ·rw [hv] at HCK
     have HBB := Lib.hid (show bb = Z.kindOk k nm d by rw [HV.out, ht]; rfl)
     clear ht hv HV
     go_enter Tryz.func28, Tryz.ntmps28
     go_wp2_with fail
     refine HCK.out.mono ?_
     rintro x W1 ⟨rfl, h1⟩
     have hb1 := HB0.out.1.trans (h1.mono HB0.out.1.size)
     have hx1 := HB0.out.2.below h1 HB0.out.2.lt
     clear x1 x3 x4 x5
     have y0 := hx1.cell 0
     have y2 := hx1.cell 2
     have y5 := hx1.cell 5
     have HX := Lib.hid hx1
     have HB := Lib.hid hb1
     clear hb1 hx1 h1 HB0
     by_cases k1 : k = 1
     ·subst k1
      obtain ⟨ne, hne⟩ : ∃ ne, nm.isEmpty = ne := ⟨_, rfl⟩
      obtain ⟨de, hde⟩ : ∃ de, d.isEmpty = de := ⟨_, rfl⟩
      have hv : bb = (ne && !de) := by rw [HBB.out]; unfold Z.kindOk; rw [if_pos rfl, hne, hde]
      have hde2 : (d != ([] : List UInt8)) = !de := by rw [← hde]; cases d <;> rfl
      subst hv
      cases ne with
      | false =>
        go_wp2
        go_ret
        exact ⟨rfl, HB.out⟩
      | true =>
        go_wp2
        go_ret
        exact ⟨rfl, HB.out⟩
     ·by_cases k2 : k = 2
      ·subst k2
       obtain ⟨ne, hne⟩ : ∃ ne, nm.isEmpty = ne := ⟨_, rfl⟩
       obtain ⟨hb, hhb⟩ : ∃ hb, hb = (Lib.index d [45, 45] != -1) := ⟨_, rfl⟩
       obtain ⟨rb, hrb⟩ : ∃ rb, rb = d.contains 13 := ⟨_, rfl⟩
       have hHS := fun W => rhas_calls d [45, 45] W HD.out (by simp) (by simp)
       have hRS := fun W => rhas_calls d [13] W HD.out (by simp) (by simp)
       rw [← hhb] at hHS
       rw [has13, ← hrb] at hRS
       have hv : bb = (ne && (!hb && (decide (d.getLast? ≠ some 45) && !rb))) := by
        have e : ∀ n r h l : Bool, (n && !r && (!h && l)) = (n && (!h && (l && !r))) := by decide
        rw [HBB.out, ← e]
        unfold Z.kindOk
        rw [if_neg (by decide), if_pos rfl, hne, ix_dash, ← hrb, hhb]
        unfold bne
        rw [Bool.not_not]
       have HHS := Lib.hid hHS
       have HRS := Lib.hid hRS
       have HV := Lib.hid hv
       clear hHS hRS hv hhb hrb HBB k1 k3
       cases ne with
       | false =>
         obtain rfl : bb = false := HV.out
         go_wp2
         go_ret
         exact ⟨rfl, HB.out⟩
       | true =>
         go_wp2_with fail
         refine (HHS.out W1).mono ?_
         rintro x W2 ⟨rfl, h2⟩
         have hb2 := HB.out.trans (h2.mono HB.out.size)
         have hx2 := HX.out.below h2 HX.out.lt
         clear y0 y2 y5
         have y5 := hx2.cell 5
         have HB2 := Lib.hid (And.intro hb2 hx2)
         clear hb2 hx2 h2 HX HB
         cases hb with
         | true =>
           obtain rfl : bb = false := HV.out
           go_wp2
           go_ret
           exact ⟨rfl, HB2.out.1⟩
         | false =>
           by_cases d0 : d = []
           ·subst d0
            obtain rfl : bb = !rb := by rw [HV.out]; rfl
            go_wp2_with fail
            refine (HRS.out W2).mono ?_
            rintro x W3 ⟨rfl, h3⟩
            have hb3 := HB2.out.1.trans (h3.mono HB2.out.1.size)
            clear y5 h3
            go_wp2
            go_ret
            exact ⟨rfl, hb3⟩
           ·have hp : 0 < d.length := List.length_pos_iff.2 d0
            have hlen := HD.out
            have hl : d.getLast? = some d[d.length - 1] := by rw [List.getLast?_eq_getElem?, List.getElem?_eq_getElem (by omega)]
            have e2 : (M d).toList = d := M_toList d
            obtain ⟨ji, hji⟩ : ∃ ji, wrap64 (((M d).size : Int) - 1) = ji := ⟨_, rfl⟩
            have hji2 : ji = ((d.length - 1 : Nat) : Int) := by
             rw [← hji]
             show wrap64 ((d.length : Int) - 1) = _
             rw [U.w64 (by omega) (by omega)]
             omega
            have hbt : bt (M d) ji = (d[d.length - 1].toNat : Int) := by rw [hji2]; exact U.B_bt d (d.length - 1) (by omega)
            have b0 : ((M d).toList == ([] : List UInt8)) = false := by rw [e2]; simpa using d0
            have b1 : ((M d).toList != ([] : List UInt8)) = true := by rw [e2]; simpa using d0
            have b2 : (M d).toList.isEmpty = false := by rw [e2]; cases d with | nil => exact absurd rfl d0 | cons _ _ => rfl
            have p27 : (0 ≤ ji) = True := eq_true (by rw [hji2]; omega)
            have q27 : (ji < ((M d).size : Int)) = True := eq_true (by rw [hji2]; show _ < ((d.length : Nat) : Int); omega)
            have hjiw : IntKind.i64.wrap (((M d).size : Int) - 1) = ji := (i64_w _).trans hji
            obtain ⟨lb, hlb⟩ : ∃ lb, (bt (M d) ji == 45) = lb := ⟨_, rfl⟩
            have hlb1 : (bt (M d) ji != 45) = !lb := by rw [← hlb]; rfl
            have hv2 : bb = (!lb && !rb) := by
             rw [HV.out, hl]
             have : decide (some d[d.length - 1] ≠ some 45) = !lb := by
              rw [← hlb, hbt]
              by_cases h45 : d[d.length - 1] = 45
              ·rw [h45]; decide
              ·have : ¬ ((d[d.length - 1].toNat : Nat) : Int) = 45 := U.val_ne _ 45 h45
               simp [h45, this]
             rw [this]
             rfl
            have HV2 := Lib.hid hv2
            clear hv2 hbt hl hji hji2 hlen hp e2 d0 HV HCK HD
            generalize M d = ds at *
            have hx27 := bt_at ds ji
            cases lb with
            | true =>
              obtain rfl : bb = false := HV2.out
              go_wp2
              go_ret
              exact ⟨rfl, HB2.out.1⟩
            | false =>
              obtain rfl : bb = !rb := HV2.out
              go_wp2_with fail
              refine (HRS.out W2).mono ?_
              rintro x W3 ⟨rfl, h3⟩
              have hb3 := HB2.out.1.trans (h3.mono HB2.out.1.size)
              clear y5 h3
              go_wp2
              go_ret
              exact ⟨rfl, hb3⟩
      ·obtain rfl : bb = false := by
        rw [HBB.out]
        unfold Z.kindOk
        rw [if_neg k1, if_neg k2, if_neg k3]
       go_wp2
       go_ret
       exact ⟨rfl, HB.out⟩
    ·obtain rfl : bb = false := by rw [HV.out, ht]; rfl
     generalize U.checkL d.length d = cv at HCK hv
     clear ht HV
     go_enter Tryz.func28, Tryz.ntmps28
     go_wp2_with fail
     refine HCK.out.mono ?_
     rintro x W1 ⟨rfl, h1⟩
     have hb1 := HB0.out.1.trans (h1.mono HB0.out.1.size)
     clear x1 x3 x4 x5
     go_wp2
     go_ret
     exact ⟨rfl, hb1⟩
  ·obtain rfl : bb = false := by
    rw [hbb]
    cases at_ with
    | nil =>
      cases kids with
      | nil => exact absurd rfl h2
      | cons _ _ => simp
    | cons _ _ => simp
   have hgt : (at_.length : Int) + (kids.length : Int) > 0 := by omega
   have hwr : IntKind.i64.wrap ((at_.length : Int) + (kids.length : Int)) = (at_.length : Int) + (kids.length : Int) := IntWalk.i64_in _ (by omega)
   have HB0 := Lib.hid hb0
   clear hbb hb0 hbx hn hd h2
   go_enter Tryz.func28, Tryz.ntmps28
   go_wp2
   go_ret
   exact ⟨rfl, HB0.out⟩
 ·obtain rfl : bb = false := by
   rw [hbb]
   cases sp with
   | nil => exact absurd rfl h1
   | cons _ _ => rfl
  have HB0 := Lib.hid hb0
  clear hbb hb0 hbx hn hd hat hkl
  go_enter Tryz.func28, Tryz.ntmps28
  go_wp2
  go_ret
  exact ⟨rfl, HB0.out⟩
def lastK (kids : List Tr) : Nat → Int
 | 0 => 0
 | i + 1 => match kids[i]? with | some t => t.kind | none => 0
theorem lastK_succ {kids : List Tr} {i : Nat} (h : i < kids.length) : lastK kids (i + 1) = kids[i].kind := by
 show (match kids[i]? with | some t => t.kind | none => 0) = kids[i].kind
 rw [List.getElem?_eq_getElem h]
def RMayOk (t : Tr) : Prop := ∀ {w0 : World} {cs : List Value}, kTr.K w0 t cs → ∀ {w : World} (depth : Nat), depth ≤ 31 → Below w0.heap.size w0 w →
 Calls Tryz.prog 16 #[.agg cs.toArray, .int .i64 (depth : Int)] w fun e w' => e = .returned (.bool (mayB t depth)) ∧ Below w.heap.size w w'
set_option maxRecDepth 100000 in
set_option maxHeartbeats 4000000 in
theorem rmay_leaf {k : Int} {sp nm d : Bs} {at_ : List At} {kids : List Tr} (hk : k ≠ 0) (hB : TrB (.mk k sp nm at_ kids d)) : RMayOk (.mk k sp nm at_ kids d) := by
 intro w0 cs hK w depth hd hw
 obtain ⟨A, c, B, e, hcs0, hca, hA, hke, hkB⟩ := kTr_openK hK
 have hcs : cs = [.int .i64 k, .string (M sp), .string (M nm), .slice A at_.length c, .slice B kids.length e, .string (M d)] := hcs0
 obtain ⟨b1, b2, b3, b4, b5, b6, b7⟩ := hB.open
 clear hcs0 hca hA hke hkB
 subst hcs
 have hb0 : Below w.heap.size w (w.alloc (.cells #[.int .i64 k, .string (M sp), .string (M nm), .slice A at_.length c, .slice B kids.length e, .string (M d)] 25)) := (Below.refl _ _).alloc (Nat.le_refl _) _
 have hbx := Blk.new w #[.int .i64 k, .string (M sp), .string (M nm), .slice A at_.length c, .slice B kids.length e, .string (M d)] 25
 have x0 := hbx.cell 0
 have x1 := hbx.cell 1
 have x2 := hbx.cell 2
 have x3 := hbx.cell 3
 have x4 := hbx.cell 4
 have x5 := hbx.cell 5
 rw [mayB_mkl hk]
 have HL := Lib.hid (rleaf_calls (k := k) (sp := sp) (A := A) (B := B) (c := c) (e := e) (w.alloc (.cells #[.int .i64 k, .string (M sp), .string (M nm), .slice A at_.length c, .slice B kids.length e, .string (M d)] 25)) b2 b3 b4 b5)
 have HB := Lib.hid hb0
 clear hb0 hbx b1 b2 b3 b4 b5 b6 b7 hK hw hB
 go_enter Tryz.func16, Tryz.ntmps16
 go_wp2_with fail
 refine HL.out.mono ?_
 rintro x W1 ⟨rfl, h1⟩
 have HB1 := Lib.hid (HB.out.trans (h1.mono HB.out.size))
 clear h1
 go_wp2
 go_ret
 exact ⟨rfl, HB1.out⟩
set_option maxRecDepth 100000 in
set_option maxHeartbeats 8000000 in
theorem rmay_elem {sp nm d : Bs} {at_ : List At} {kids : List Tr} (hBt : TrB (.mk 0 sp nm at_ kids d)) (hkid : ∀ t ∈ kids, RMayOk t) : RMayOk (.mk 0 sp nm at_ kids d) := by
 intro w0 cs hK w depth hd hw
 obtain ⟨A, c, B, e, hcs0, hca, hA, hke, hB⟩ := kTr_openK hK
 have hcs : cs = [.int .i64 0, .string (M sp), .string (M nm), .slice A at_.length c, .slice B kids.length e, .string (M d)] := hcs0
 have hA : kAttr.C w0 A at_.length at_ := hA
 have hB : kTr.C w0 B kids.length kids := hB
 obtain ⟨b1, b2, b3, b4, b5, b6, b7⟩ := hBt.open
 clear hcs0 hca hke
 subst hcs
 have hb0 : Below w.heap.size w (w.alloc (.cells #[.int .i64 0, .string (M sp), .string (M nm), .slice A at_.length c, .slice B kids.length e, .string (M d)] 25)) := (Below.refl _ _).alloc (Nat.le_refl _) _
 have hbx := Blk.new w #[.int .i64 0, .string (M sp), .string (M nm), .slice A at_.length c, .slice B kids.length e, .string (M d)] 25
 have x0 := hbx.cell 0
 have x1 := hbx.cell 1
 have x2 := hbx.cell 2
 have x3 := hbx.cell 3
 have x4 := hbx.cell 4
 have x5 := hbx.cell 5
 obtain ⟨bb, hbb⟩ : ∃ bb, bb = mayB (.mk 0 sp nm at_ kids d) depth := ⟨_, rfl⟩
 obtain ⟨pb, hpb⟩ : ∃ pb, pb = U.plainB nm := ⟨_, rfl⟩
 obtain ⟨sb, hsb⟩ : ∃ sb, sb = (textOk sp && (sp != V.tNS)) := ⟨_, rfl⟩
 obtain ⟨b2', hb2'⟩ : ∃ b2', (sp == ([104, 116, 116, 112, 58, 47, 47, 119, 119, 119, 46, 119, 51, 46, 111, 114, 103, 47, 88, 77, 76, 47, 49, 57, 57, 56, 47, 110, 97, 109, 101, 115, 112, 97, 99, 101] : List UInt8)) = b2' := ⟨_, rfl⟩
 obtain ⟨ab, hab⟩ : ∃ ab, ab = attrsOkN [([], tXmlns)] at_ := ⟨_, rfl⟩
 have hbb2 : bb = (decide (depth ≤ 30) && decide (at_.length ≤ 24) && d.isEmpty && pb && sb && !b2' && ab && mayBs kids 0 (depth + 1)) := by
  have e : ∀ a d p t n x o l k : Bool, (a && d && p && t && n && x && (o && l) && k) = (a && l && d && p && (t && n) && x && o && k) := by decide
  rw [hbb, mayB_mk0]
  show (_ && _ && _ && _ && _ && !(sp == V.tXML) && (attrsOkN [([], tXmlns)] at_ && decide (at_.length ≤ 24)) && _) = _
  rw [e, hpb, hsb, hab, ← hb2']
  rfl
 rw [← hbb]
 have HPL := Lib.hid (fun W => rplain_calls nm W (Nat.le_of_lt b2))
 have HSP := Lib.hid (fun W => rspace_calls sp W)
 rw [← hpb] at HPL
 rw [← hsb] at HSP
 have HAT := Lib.hid (fun W (h : Below w0.heap.size w0 W) => rattrs_calls A c at_ W (Kd.C_below (d := kAttr) hA h) (Nat.le_of_lt b4) (fun a ha => Nat.le_of_lt (b6 a ha).2.1))
 rw [← hab] at HAT
 have HBB := Lib.hid hbb2
 have HW := Lib.hid hw
 have HB := Lib.hid (And.intro hb0 hbx)
 have HKD := Lib.hid (And.intro hB (And.intro hkid b5))
 clear hb0 hbx hbb hbb2 hpb hsb hab hA hB hkid hw hK hBt b1 b2 b3 b4 b5 b6 b7
 go_enter Tryz.func16, Tryz.ntmps16
 by_cases h30 : depth ≤ 30
 ·have hd30 : ¬ (30 : Int) < (depth : Int) := by omega
  by_cases h24 : at_.length ≤ 24
  ·have hl24 : ¬ (24 : Int) < (at_.length : Int) := by omega
   cases hdd : d with
   | cons dc dt =>
     subst hdd
     obtain rfl : bb = false := by rw [HBB.out]; simp
     go_wp2
     go_ret
     exact ⟨rfl, HB.out.1⟩
   | nil =>
     subst hdd
     go_wp2_with fail
     refine (HPL.out _).mono ?_
     rintro x W1 ⟨rfl, h1⟩
     have hb1 := HB.out.1.trans (h1.mono HB.out.1.size)
     have hx1 := HB.out.2.below h1 HB.out.2.lt
     clear x0 x1 x2 x3 x4 x5
     have x1 := hx1.cell 1
     have HB1 := Lib.hid (And.intro hb1 hx1)
     clear hb1 hx1 h1 HB
     cases pb with
     | false =>
       obtain rfl : bb = false := by rw [HBB.out]; simp
       go_wp2
       go_ret
       exact ⟨rfl, HB1.out.1⟩
     | true =>
       go_wp2_with fail
       refine (HSP.out _).mono ?_
       rintro x W2 ⟨rfl, h2⟩
       have hb2 := HB1.out.1.trans (h2.mono HB1.out.1.size)
       have hx2 := HB1.out.2.below h2 HB1.out.2.lt
       clear x1
       have x1 := hx2.cell 1
       have x3 := hx2.cell 3
       have HB2 := Lib.hid (And.intro hb2 hx2)
       clear hb2 hx2 h2 HB1
       cases sb with
       | false =>
         obtain rfl : bb = false := by rw [HBB.out]; simp
         go_wp2
         go_ret
         exact ⟨rfl, HB2.out.1⟩
       | true =>
         cases b2' with
         | true =>
           obtain rfl : bb = false := by rw [HBB.out]; simp
           go_wp2
           go_ret
           exact ⟨rfl, HB2.out.1⟩
         | false =>
           go_wp2_with fail
           refine (HAT.out _ (HW.out.trans (HB2.out.1.mono HW.out.size))).mono ?_
           rintro x W3 ⟨rfl, h3⟩
           have hb3 := HB2.out.1.trans (h3.mono HB2.out.1.size)
           have hx3 := HB2.out.2.below h3 HB2.out.2.lt
           clear x1 x3
           have HB3 := Lib.hid (And.intro hb3 hx3)
           clear hb3 hx3 h3 HB2
           cases ab with
           | false =>
             obtain rfl : bb = false := by rw [HBB.out]; simp
             go_wp2
             go_ret
             exact ⟨rfl, HB3.out.1⟩
           | true =>
             have hbk : bb = mayBs kids 0 (depth + 1) := by rw [HBB.out, decide_eq_true h30, decide_eq_true h24]; simp
             have HI := Aside0.mk (And.intro HB3.out.1 (And.intro HB3.out.2 (show bb = mayBs (kids.drop 0) (lastK kids 0) (depth + 1) from hbk)))
             have hkl := HKD.out.2.2
             clear hbk hd30 hl24
             go_wp2_with fail
             go_loopw [5] (fun v5 wr => ∃ (i : Nat), v5 = .int .i64 i ∧ i ≤ kids.length ∧ Aside0 (Below w.heap.size w wr ∧ Blk wr w.heap.size #[.int .i64 0, .string (M sp), .string (M nm), .slice A at_.length c, .slice B kids.length e, .string (M [])] 25 ∧ bb = mayBs (kids.drop i) (lastK kids i) (depth + 1))) (fun v5 _ => kids.length - (intOf v5).toNat)
             case atStart => exact ⟨0, rfl, by omega, HI⟩
             case round =>
              obtain ⟨i, rfl, hi, HL⟩ := hrel
              have y4 := HL.out.2.1.cell 4
              by_cases hlt : i < kids.length
              ·have hww := HW.out.trans (HL.out.1.mono HW.out.size)
               obtain ⟨ad, A1, c1, A2, c2, hBa, hK, k0, k1, k2, k3, k4, k5⟩ := node_at HKD.out.1 hww i hlt
               subst hBa
               obtain ⟨mb, hmb⟩ : ∃ mb, mb = mayB kids[i] (depth + 1) := ⟨_, rfl⟩
               have hC := HKD.out.2.1 kids[i] (List.getElem_mem hlt) hK (w := wr) (depth + 1) (by omega) hww
               have hdd : ((depth + 1 : Nat) : Int) = (depth : Int) + 1 := by omega
               rw [← hmb, hdd] at hC
               have hst : bb = (!(decide (kids[i].kind = 1) && decide (lastK kids i = 1)) && mb && mayBs (kids.drop (i + 1)) (lastK kids (i + 1)) (depth + 1)) := by
                rw [HL.out.2.2, List.drop_eq_getElem_cons hlt, mayBs_mk, hmb, lastK_succ hlt]
               have HC := Lib.hid hC
               have HST := Lib.hid hst
               clear hC hst hmb hK hww hdd
               go_wp2_with fail
               refine HC.out.mono ?_
               rintro x W5 ⟨rfl, h5⟩
               have hb5 := HL.out.1.trans (h5.mono HL.out.1.size)
               have hx5 := HL.out.2.1.below h5 HL.out.2.1.lt
               clear k0 k1 k2 k3 k4 k5 y4
               have y4 := hx5.cell 4
               have H5 := Lib.hid (And.intro hb5 hx5)
               clear hb5 hx5 h5 HC
               cases mb with
               | false =>
                 obtain rfl : bb = false := by rw [HST.out]; simp
                 go_wp2
                 go_ret
                 exact ⟨rfl, H5.out.1⟩
               | true =>
                 have hww := HW.out.trans (H5.out.1.mono HW.out.size)
                 obtain ⟨ad', _, _, _, _, hBa, _, k0, _⟩ := node_at HKD.out.1 hww i hlt
                 obtain rfl := Option.some.inj hBa
                 cases i with
                 | zero =>
                   have H9 := Aside0.mk (And.intro H5.out.1 (And.intro H5.out.2 (show bb = mayBs (kids.drop (0 + 1)) (lastK kids (0 + 1)) (depth + 1) by
                    rw [HST.out]
                    have : decide (lastK kids 0 = 1) = false := rfl
                    rw [this]
                    simp)))
                   clear k0 hBa hww
                   go_wp2
                   go_roundw
                   case rel => exact ⟨0 + 1, by go_num, by omega, H9⟩
                   case measure => simp [intOf]; omega
                 | succ j =>
                   have hj : j < kids.length := by omega
                   obtain ⟨ad2, _, _, _, _, hBb, _, m0, _⟩ := node_at HKD.out.1 hww j hj
                   obtain rfl := Option.some.inj hBb
                   have hwj : IntKind.i64.wrap (((j + 1 : Nat) : Int) - 1) = (j : Int) := by
                    rw [show (((j + 1 : Nat) : Int) - 1) = (j : Int) by omega]
                    exact IntWalk.i64_in _ (by omega)
                   have hl2 : lastK kids (j + 1) = kids[j].kind := lastK_succ hj
                   have HST2 := Lib.hid (show bb = (!(decide (kids[j + 1].kind = 1) && decide (kids[j].kind = 1)) && mayBs (kids.drop (j + 1 + 1)) (lastK kids (j + 1 + 1)) (depth + 1)) by rw [HST.out, hl2]; simp)
                   clear hl2 hBa hBb hww HST
                   by_cases q1 : kids[j + 1].kind = 1
                   ·by_cases q2 : kids[j].kind = 1
                    ·obtain rfl : bb = false := by rw [HST2.out, decide_eq_true q1, decide_eq_true q2]; rfl
                     rw [q1] at k0
                     rw [q2] at m0
                     go_wp2
                     go_ret
                     exact ⟨rfl, H5.out.1⟩
                    ·have H9 := Aside0.mk (And.intro H5.out.1 (And.intro H5.out.2 (show bb = mayBs (kids.drop (j + 1 + 1)) (lastK kids (j + 1 + 1)) (depth + 1) by
                      rw [HST2.out, decide_eq_false q2]
                      simp)))
                     rw [q1] at k0
                     go_wp2
                     go_roundw
                     case rel => exact ⟨j + 1 + 1, by go_num, by omega, H9⟩
                     case measure => simp [intOf]; omega
                   ·have H9 := Aside0.mk (And.intro H5.out.1 (And.intro H5.out.2 (show bb = mayBs (kids.drop (j + 1 + 1)) (lastK kids (j + 1 + 1)) (depth + 1) by
                     rw [HST2.out, decide_eq_false q1]
                     simp)))
                    go_wp2
                    go_roundw
                    case rel => exact ⟨j + 1 + 1, by go_num, by omega, H9⟩
                    case measure => simp [intOf]; omega
              ·obtain rfl : bb = true := by
                rw [HL.out.2.2, List.drop_eq_nil_of_le (by omega)]
                unfold mayBs
                rfl
               have HB9 := Lib.hid HL.out.1
               clear HL
               go_wp2
               go_ret
               exact ⟨rfl, HB9.out⟩
  ·have hl24 : (24 : Int) < (at_.length : Int) := by omega
   obtain rfl : bb = false := by rw [HBB.out, decide_eq_false h24]; simp
   go_wp2
   go_ret
   exact ⟨rfl, HB.out.1⟩
 ·have hd30 : (30 : Int) < (depth : Int) := by omega
  obtain rfl : bb = false := by rw [HBB.out, decide_eq_false h30]; simp
  go_wp2
  go_ret
  exact ⟨rfl, HB.out.1⟩
end Go.Proofs.YtadgeghipimfiaaGreatDoor.X
end
section
namespace Go.Proofs.YtadgeghipimfiaaGreatDoor.Pg
open Go.RowKit Go.Proofs.YtadgeghipimfiaaGreatDoorW.PrintWords Go.Proofs.YtadgeghipimfiaaGreatDoorW.PrintLast Go.Proofs.YtadgeghipimfiaaGreatDoorW.PrintMore
open Go.Proofs.YtadgeghipimfiaaGreatDoor.X
set_option linter.unusedVariables false
set_option linter.unusedSimpArgs false
theorem eqA38 (d : Nat) (w : World) (x0 y0 : ByteArray) (x1 y1 : ByteArray) (x2 y2 : ByteArray) :
  (Op.equalIn (d + 2) 38 (.agg #[.string x0, .string x1, .string x2]) (.agg #[.string y0, .string y1, .string y2])).run Tryz.prog w = .ok (x0.toList == y0.toList && (x1.toList == y1.toList && (x2.toList == y2.toList))) w := by
 refine eqA_of Tryz.underlying38 (by kernel_rfl) ?_
 refine eqf_cons (by rfl) (by go_simp; rfl) (by go_simp; rfl) (by go_simp) ?_
 refine eqf_cons (by rfl) (by go_simp; rfl) (by go_simp; rfl) (by go_simp) ?_
 exact eqf_last (by rfl) (by go_simp; rfl) (by go_simp; rfl) (by go_simp)
end Go.Proofs.YtadgeghipimfiaaGreatDoor.Pg
end
section
namespace Go.Proofs.YtadgeghipimfiaaGreatDoor.X
open Go.RowKit Go.Shelf Go.Proofs.YtadgeghipimfiaaGreatDoorW.PrintWords Go.Proofs.YtadgeghipimfiaaGreatDoor.F Go.Proofs.YtadgeghipimfiaaGreatDoor.Pg Go.Proofs.YtadgeghipimfiaaGreatDoor.Z Go.Proofs.YtadgeghipimfiaaGreatDoorW.PrintLast
set_option linter.unusedVariables false
set_option linter.unusedSimpArgs false
mutual
theorem rmay_all : ∀ (t : Tr), TrB t → RMayOk t
 | .mk k sp nm at_ kids d, hB => by
   by_cases h0 : k = 0
   ·subst h0
    exact rmay_elem hB (rmays_all kids hB.open.2.2.2.2.2.2)
   ·exact rmay_leaf h0 hB
theorem rmays_all : ∀ (l : List Tr), TrBs l → ∀ t ∈ l, RMayOk t
 | [], _, _, h => by cases h
 | t :: l, hs, x, hx => by
   have hs : TrB t ∧ TrBs l := by
    unfold TrBs at hs
    exact hs
   rcases List.mem_cons.1 hx with hx | hx
   ·rw [hx]
    exact rmay_all t hs.1
   ·exact rmays_all l hs.2 x hx
end
set_option maxRecDepth 100000 in
set_option maxHeartbeats 4000000 in
theorem right_calls {t : Tr} {w : World} {cs : List Value} (hK : kTr.K w t cs) (hB : TrB t) :
  Calls Tryz.prog 7 #[.agg cs.toArray] w fun e w' => e = .returned (.bool (mayDoc t)) ∧ Below w.heap.size w w' := by
 obtain ⟨A, c, B, e, hcs0, hca, hA, hke, hkB⟩ := kTr_openK hK
 obtain ⟨k, sp, nm, at_, kids, d⟩ := t
 have hcs : cs = [.int .i64 k, .string (M sp), .string (M nm), .slice A at_.length c, .slice B kids.length e, .string (M d)] := hcs0
 clear hcs0 hca hA hke hkB
 subst hcs
 have hb0 : Below w.heap.size w (w.alloc (.cells #[.int .i64 k, .string (M sp), .string (M nm), .slice A at_.length c, .slice B kids.length e, .string (M d)] 25)) := (Below.refl _ _).alloc (Nat.le_refl _) _
 have hbx := Blk.new w #[.int .i64 k, .string (M sp), .string (M nm), .slice A at_.length c, .slice B kids.length e, .string (M d)] 25
 have x0 := hbx.cell 0
 by_cases h0 : k = 0
 ·subst h0
  have x1 := hbx.cell 1
  have x2 := hbx.cell 2
  have x3 := hbx.cell 3
  have x4 := hbx.cell 4
  have x5 := hbx.cell 5
  have HM := Lib.hid (rmay_all _ hB hK 1 (by decide) hb0)
  obtain ⟨mb, hmb⟩ : ∃ mb, mb = mayB (.mk 0 sp nm at_ kids d) 1 := ⟨_, rfl⟩
  rw [← hmb] at HM
  have hv : mayDoc (.mk 0 sp nm at_ kids d) = mb := by rw [hmb]; rfl
  rw [hv]
  have HB := Lib.hid hb0
  clear hb0 hbx hmb hK hB hv
  go_enter Tryz.func7, Tryz.ntmps7
  go_wp2_with fail
  refine HM.out.mono ?_
  rintro x W1 ⟨rfl, h1⟩
  have hb1 := HB.out.trans (h1.mono HB.out.size)
  clear x0 x1 x2 x3 x4 x5 h1
  go_wp2
  go_ret
  exact ⟨rfl, hb1⟩
 ·have hv : mayDoc (.mk k sp nm at_ kids d) = false := by
   unfold mayDoc
   rw [show decide ((Tr.mk k sp nm at_ kids d).kind = 0) = false from decide_eq_false h0]
   rfl
  rw [hv]
  have HB := Lib.hid hb0
  clear hb0 hbx hK hB hv
  go_enter Tryz.func7, Tryz.ntmps7
  go_wp2
  go_ret
  exact ⟨rfl, HB.out⟩
def sameT : Bool × List (List Nat × List Nat) := (true, [([], []), ([0], [0]), ([], []), ([1, 2], [1, 2]), ([3], [3]), ([], []), ([5], [5]), ([], []), ([6, 7], [6, 7]), ([8], [8]), ([4, 9], [4, 9]), ([10], [10])])
def sameB : List Nat := [0, 1, 0, 7, 15, 0, 32, 0, 224, 480, 1023, 2047]
theorem same_tab : rtab .any (opsOf Tryz.f10 11) = sameT := by kernel_rfl
theorem same_bits : waitsOk sameT.2 sameB = true := by kernel_rfl
def pl12 (k : Nat) : Array Bool := ((List.range 12).map fun i => decide (i < k)).toArray
def SameOk (t : Tr) : Prop := ∀ {w0 : World} {cs cs' : List Value}, kTr.K w0 t cs → kTr.K w0 t cs' → ∀ {w : World}, Below w0.heap.size w0 w →
 Calls Tryz.prog 10 #[.agg cs.toArray, .agg cs'.toArray] w fun e w' => e = .returned (.bool true) ∧ Below w.heap.size w w'
set_option maxRecDepth 100000 in
set_option maxHeartbeats 8000000 in
theorem same_one {t : Tr} (hBt : TrB t) (hkid : ∀ t' ∈ t.kids, SameOk t') : SameOk t := by
 intro w0 cs cs' hK hK' w hw
 obtain ⟨A, c, B, e, hcs, hca, hA, hke, hB⟩ := kTr_openK hK
 obtain ⟨A', c', B', e', hcs', hca', hA', hke', hB'⟩ := kTr_openK hK'
 clear hK hK'
 subst hcs hcs'
 have hla : t.attrs.length < 140737488355328 := by cases t; exact hBt.open.2.2.2.1
 have hlk : t.kids.length < 140737488355328 := by cases t; exact hBt.open.2.2.2.2.1
 have hb0 : Below w.heap.size w ((w.alloc (.cells (trC t A c B e).toArray 25)).alloc (.cells (trC t A' c' B' e').toArray 25)) := ((Below.refl _ _).alloc (Nat.le_refl _) _).alloc (by rw [World.size_alloc]; omega) _
 have b1 := Blk.new w (trC t A c B e).toArray 25
 have b1' := b1.below ((Below.refl (w.alloc (.cells (trC t A c B e).toArray 25)).heap.size (w.alloc (.cells (trC t A c B e).toArray 25))).alloc (Nat.le_refl _) (.cells (trC t A' c' B' e').toArray 25)) b1.lt
 have b2 := Blk.new (w.alloc (.cells (trC t A c B e).toArray 25)) (trC t A' c' B' e').toArray 25
 rw [World.size_alloc] at b2
 have x0 := b1'.cell 0
 have x1 := b1'.cell 1
 have x2 := b1'.cell 2
 have x3 := b1'.cell 3
 have x4 := b1'.cell 4
 have x5 := b1'.cell 5
 have y0 := b2.cell 0
 have y1 := b2.cell 1
 have y2 := b2.cell 2
 have y3 := b2.cell 3
 have y4 := b2.cell 4
 have y5 := b2.cell 5
 have HA := Lib.hid (And.intro hA hA')
 have HKD := Lib.hid (And.intro hB (And.intro hB' hkid))
 have HW := Lib.hid hw
 have HI := Aside0.mk (And.intro hb0 (And.intro b1' b2))
 clear hA hA' hB hB' hkid hw hb0 b1 b1' b2 hBt hca hke hca' hke'
 go_enter Tryz.func10, Tryz.ntmps10
 go_wp2_with fail
 clear x0 x1 x2 x3 x4 x5 y0 y1 y2 y3 y4 y5
 go_loopw [5] (fun v5 wr => ∃ (i : Nat), v5 = .int .i64 i ∧ i ≤ t.attrs.length ∧ Aside0 (Below w.heap.size w wr ∧ Blk wr w.heap.size (trC t A c B e).toArray 25 ∧ Blk wr (w.heap.size + 1) (trC t A' c' B' e').toArray 25)) (fun v5 _ => t.attrs.length - (intOf v5).toNat)
 case atStart => exact ⟨0, rfl, by omega, HI⟩
 case round =>
  obtain ⟨i, rfl, hi, HL⟩ := hrel
  have x3 := HL.out.2.1.cell 3
  have y3 := HL.out.2.2.cell 3
  by_cases hlt : i < t.attrs.length
  ·have hww := HW.out.trans (HL.out.1.mono HW.out.size)
   have HD : ∀ n, Aside0 (Below w.heap.size w (wr.drewN n) ∧ Blk (wr.drewN n) w.heap.size (trC t A c B e).toArray 25 ∧ Blk (wr.drewN n) (w.heap.size + 1) (trC t A' c' B' e').toArray 25) := fun n => ⟨HL.out.1.trans ((below_drewN wr n).mono HL.out.1.size), HL.out.2.1.below (below_drewN wr n) HL.out.2.1.lt, HL.out.2.2.below (below_drewN wr n) HL.out.2.2.lt⟩
   obtain ⟨ad, hAa, c0, c1, c2⟩ := attr_at (Kd.C_below (d := kAttr) HA.out.1 hww) i hlt
   obtain ⟨ae, hAe, d0, d1, d2⟩ := attr_at (Kd.C_below (d := kAttr) HA.out.2 hww) i hlt
   subst hAa hAe
   have q : ∀ d W, (Op.equalIn (d + 2) 38 (.agg #[.string (M t.attrs[i].1), .string (M t.attrs[i].2.1), .string (M t.attrs[i].2.2)]) (.agg #[.string (M t.attrs[i].1), .string (M t.attrs[i].2.1), .string (M t.attrs[i].2.2)])).run Tryz.prog W = .ok true W := fun d W => by
    rw [eqA38]
    simp
   clear hww
   go_wp2
   go_quiet (fail)
   go_wp2
   go_roundw
   case rel => exact ⟨i + 1, by go_num, by omega, HD _⟩
   case measure => simp [intOf]; omega
  ·have HI2 := Aside0.mk HL.out
   clear HL
   go_wp2_with fail
   clear x3 y3
   go_loopw [6] (fun v6 wr => ∃ (i : Nat), v6 = .int .i64 i ∧ i ≤ t.kids.length ∧ Aside0 (Below w.heap.size w wr ∧ Blk wr w.heap.size (trC t A c B e).toArray 25 ∧ Blk wr (w.heap.size + 1) (trC t A' c' B' e').toArray 25)) (fun v6 _ => t.kids.length - (intOf v6).toNat)
   case atStart => exact ⟨0, rfl, by omega, HI2⟩
   case round =>
    obtain ⟨i, rfl, hi, HL⟩ := hrel
    have x4 := HL.out.2.1.cell 4
    have y4 := HL.out.2.2.cell 4
    by_cases hlt : i < t.kids.length
    ·have hww := HW.out.trans (HL.out.1.mono HW.out.size)
     obtain ⟨ad, A1, c1, A2, c2, hAa, hk1, k0, k1, k2, k3, k4, k5⟩ := node_at HKD.out.1 hww i hlt
     obtain ⟨ae, D1, f1, D2, f2, hAe, hk2, m0, m1, m2, m3, m4, m5⟩ := node_at HKD.out.2.1 hww i hlt
     subst hAa hAe
     have HKK := Lib.hid (And.intro hk1 hk2)
     have hS : ∀ W, Below wr.heap.size wr W → (W.cell? ⟨w.heap.size, 4, none⟩ = some (.slice (some ad) t.kids.length e) ∧ W.cell? ⟨w.heap.size + 1, 4, none⟩ = some (.slice (some ae) t.kids.length e')) ∧ (W.cell? (ad.add (i * 6)) = some (.int .i64 t.kids[i].kind) ∧ W.cell? ⟨(ad.add (i * 6)).block, (ad.add (i * 6)).off + 1, none⟩ = some (.string (M t.kids[i].sp)) ∧ W.cell? ⟨(ad.add (i * 6)).block, (ad.add (i * 6)).off + 2, none⟩ = some (.string (M t.kids[i].nm)) ∧ W.cell? ⟨(ad.add (i * 6)).block, (ad.add (i * 6)).off + 3, none⟩ = some (.slice A1 t.kids[i].attrs.length c1) ∧ W.cell? ⟨(ad.add (i * 6)).block, (ad.add (i * 6)).off + 4, none⟩ = some (.slice A2 t.kids[i].kids.length c2) ∧ W.cell? ⟨(ad.add (i * 6)).block, (ad.add (i * 6)).off + 5, none⟩ = some (.string (M t.kids[i].data)) ∧ True) ∧ (W.cell? (ae.add (i * 6)) = some (.int .i64 t.kids[i].kind) ∧ W.cell? ⟨(ae.add (i * 6)).block, (ae.add (i * 6)).off + 1, none⟩ = some (.string (M t.kids[i].sp)) ∧ W.cell? ⟨(ae.add (i * 6)).block, (ae.add (i * 6)).off + 2, none⟩ = some (.string (M t.kids[i].nm)) ∧ W.cell? ⟨(ae.add (i * 6)).block, (ae.add (i * 6)).off + 3, none⟩ = some (.slice D1 t.kids[i].attrs.length f1) ∧ W.cell? ⟨(ae.add (i * 6)).block, (ae.add (i * 6)).off + 4, none⟩ = some (.slice D2 t.kids[i].kids.length f2) ∧ W.cell? ⟨(ae.add (i * 6)).block, (ae.add (i * 6)).off + 5, none⟩ = some (.string (M t.kids[i].data)) ∧ True) := fun W hq => ⟨⟨(hq.cell (World.block_lt_of_cell? wr _ x4)).trans x4, (hq.cell (World.block_lt_of_cell? wr _ y4)).trans y4⟩, ⟨(hq.cell (World.block_lt_of_cell? wr _ k0)).trans k0, (hq.cell (World.block_lt_of_cell? wr _ k1)).trans k1, (hq.cell (World.block_lt_of_cell? wr _ k2)).trans k2, (hq.cell (World.block_lt_of_cell? wr _ k3)).trans k3, (hq.cell (World.block_lt_of_cell? wr _ k4)).trans k4, (hq.cell (World.block_lt_of_cell? wr _ k5)).trans k5, trivial⟩, (hq.cell (World.block_lt_of_cell? wr _ m0)).trans m0, (hq.cell (World.block_lt_of_cell? wr _ m1)).trans m1, (hq.cell (World.block_lt_of_cell? wr _ m2)).trans m2, (hq.cell (World.block_lt_of_cell? wr _ m3)).trans m3, (hq.cell (World.block_lt_of_cell? wr _ m4)).trans m4, (hq.cell (World.block_lt_of_cell? wr _ m5)).trans m5, trivial⟩
     have hdr : Below wr.heap.size wr wr.drew := (Below.refl _ _).drew
     have KX := Lib.hid (And.intro (HL.out.1.trans (hdr.mono HL.out.1.size)) (And.intro (hww.trans (hdr.mono hww.size)) (And.intro (HL.out.2.1.below hdr HL.out.2.1.lt) (And.intro (HL.out.2.2.below hdr HL.out.2.2.lt) (fun W (hq : Below wr.drew.heap.size wr.drew W) => hS W (hdr.trans (hq.mono hdr.size)))))))
     have hheld := hS wr.drew hdr
     clear hww hk1 hk2 hS hdr k0 k1 k2 k3 k4 k5 m0 m1 m2 m3 m4 m5 x4 y4
     have x4 := HL.out.2.1.cell 4
     go_upto_region 11 with (fail)
     refine start_ (n := 12) (S := fun w' => (w'.cell? ⟨w.heap.size, 4, none⟩ = some (.slice (some ad) t.kids.length e) ∧ w'.cell? ⟨w.heap.size + 1, 4, none⟩ = some (.slice (some ae) t.kids.length e')) ∧ (w'.cell? (ad.add (i * 6)) = some (.int .i64 t.kids[i].kind) ∧ w'.cell? ⟨(ad.add (i * 6)).block, (ad.add (i * 6)).off + 1, none⟩ = some (.string (M t.kids[i].sp)) ∧ w'.cell? ⟨(ad.add (i * 6)).block, (ad.add (i * 6)).off + 2, none⟩ = some (.string (M t.kids[i].nm)) ∧ w'.cell? ⟨(ad.add (i * 6)).block, (ad.add (i * 6)).off + 3, none⟩ = some (.slice A1 t.kids[i].attrs.length c1) ∧ w'.cell? ⟨(ad.add (i * 6)).block, (ad.add (i * 6)).off + 4, none⟩ = some (.slice A2 t.kids[i].kids.length c2) ∧ w'.cell? ⟨(ad.add (i * 6)).block, (ad.add (i * 6)).off + 5, none⟩ = some (.string (M t.kids[i].data)) ∧ True) ∧ (w'.cell? (ae.add (i * 6)) = some (.int .i64 t.kids[i].kind) ∧ w'.cell? ⟨(ae.add (i * 6)).block, (ae.add (i * 6)).off + 1, none⟩ = some (.string (M t.kids[i].sp)) ∧ w'.cell? ⟨(ae.add (i * 6)).block, (ae.add (i * 6)).off + 2, none⟩ = some (.string (M t.kids[i].nm)) ∧ w'.cell? ⟨(ae.add (i * 6)).block, (ae.add (i * 6)).off + 3, none⟩ = some (.slice D1 t.kids[i].attrs.length f1) ∧ w'.cell? ⟨(ae.add (i * 6)).block, (ae.add (i * 6)).off + 4, none⟩ = some (.slice D2 t.kids[i].kids.length f2) ∧ w'.cell? ⟨(ae.add (i * 6)).block, (ae.add (i * 6)).off + 5, none⟩ = some (.string (M t.kids[i].data)) ∧ True)) (ds := []) (pl12 0) (by kernel_rfl) rfl rfl hheld (fun hHeld => ?_)
     refine with_tabW same_tab same_bits (fun HT_ HW_ => ?_)
     clear hheld x4
     generalize World.drew _ = v0 at KX hHeld ⊢
     refine pu_ (i := 0) (N := some 76) (v := .pointer (some ⟨w.heap.size, 4, none⟩)) (pl12 1) rfl rfl HT_ (by kernel_rfl) (fun _ _ _ h => h) (Or.inl ⟨by rfl, fun w' => by go_simp⟩) rfl ?_
     simp only [Act.put, List.setIfInBounds_toArray, List.set_cons_zero, List.set_cons_succ]
     refine take_ (i := 1) (N := some 77) (v := .slice (some ad) t.kids.length e) (pl12 2) rfl rfl (take_ofW HT_.out HW_.out (by kernel_rfl)) (fun _ _ _ h => h) (Or.inl ⟨by rfl, fun w' hS => by obtain ⟨⟨hs0, _⟩, _⟩ := hS; go_simp⟩) hHeld rfl ?_
     simp only [Act.put, List.setIfInBounds_toArray, List.set_cons_zero, List.set_cons_succ]
     refine pu_ (i := 2) (N := some 78) (v := .int .i64 (i : Int)) (pl12 3) rfl rfl HT_ (by kernel_rfl) (fun _ _ _ h => h) (Or.inl ⟨by rfl, fun w' => by go_simp⟩) rfl ?_
     simp only [Act.put, List.setIfInBounds_toArray, List.set_cons_zero, List.set_cons_succ]
     refine pu_ (i := 3) (N := some 79) (v := .pointer (some (ad.add (i * 6)))) (pl12 4) rfl rfl HT_ (by kernel_rfl) (fun _ _ _ h => h) (Or.inl ⟨by rfl, fun w' => by go_simp⟩) rfl ?_
     simp only [Act.put, List.setIfInBounds_toArray, List.set_cons_zero, List.set_cons_succ]
     refine take_ (i := 4) (N := some 80) (v := .agg #[.int .i64 t.kids[i].kind, .string (M t.kids[i].sp), .string (M t.kids[i].nm), .slice A1 t.kids[i].attrs.length c1, .slice A2 t.kids[i].kids.length c2, .string (M t.kids[i].data)]) (pl12 5) rfl rfl (take_ofW HT_.out HW_.out (by kernel_rfl)) (fun _ _ _ h => h) (Or.inl ⟨by rfl, fun w' hS => by obtain ⟨_, ⟨hs0, hs1, hs2, hs3, hs4, hs5, _⟩, _⟩ := hS; go_simp⟩) hHeld rfl ?_
     simp only [Act.put, List.setIfInBounds_toArray, List.set_cons_zero, List.set_cons_succ]
     refine pu_ (i := 5) (N := some 81) (v := .pointer (some ⟨w.heap.size + 1, 4, none⟩)) (pl12 6) rfl rfl HT_ (by kernel_rfl) (fun _ _ _ h => h) (Or.inl ⟨by rfl, fun w' => by go_simp⟩) rfl ?_
     simp only [Act.put, List.setIfInBounds_toArray, List.set_cons_zero, List.set_cons_succ]
     refine take_ (i := 6) (N := some 82) (v := .slice (some ae) t.kids.length e') (pl12 7) rfl rfl (take_ofW HT_.out HW_.out (by kernel_rfl)) (fun _ _ _ h => h) (Or.inl ⟨by rfl, fun w' hS => by obtain ⟨⟨_, hs0⟩, _⟩ := hS; go_simp⟩) hHeld rfl ?_
     simp only [Act.put, List.setIfInBounds_toArray, List.set_cons_zero, List.set_cons_succ]
     refine pu_ (i := 7) (N := some 83) (v := .int .i64 (i : Int)) (pl12 8) rfl rfl HT_ (by kernel_rfl) (fun _ _ _ h => h) (Or.inl ⟨by rfl, fun w' => by go_simp⟩) rfl ?_
     simp only [Act.put, List.setIfInBounds_toArray, List.set_cons_zero, List.set_cons_succ]
     refine pu_ (i := 8) (N := some 84) (v := .pointer (some (ae.add (i * 6)))) (pl12 9) rfl rfl HT_ (by kernel_rfl) (fun _ _ _ h => h) (Or.inl ⟨by rfl, fun w' => by go_simp⟩) rfl ?_
     simp only [Act.put, List.setIfInBounds_toArray, List.set_cons_zero, List.set_cons_succ]
     refine take_ (i := 9) (N := some 85) (v := .agg #[.int .i64 t.kids[i].kind, .string (M t.kids[i].sp), .string (M t.kids[i].nm), .slice D1 t.kids[i].attrs.length f1, .slice D2 t.kids[i].kids.length f2, .string (M t.kids[i].data)]) (pl12 10) rfl rfl (take_ofW HT_.out HW_.out (by kernel_rfl)) (fun _ _ _ h => h) (Or.inl ⟨by rfl, fun w' hS => by obtain ⟨_, _, hs0, hs1, hs2, hs3, hs4, hs5, _⟩ := hS; go_simp⟩) hHeld rfl ?_
     simp only [Act.put, List.setIfInBounds_toArray, List.set_cons_zero, List.set_cons_succ]
     refine one_ (i := 10) (N := some 86) (pl12 11) rfl rfl (one_of HT_.out (by kernel_rfl)) (by decide) (fun K hK => ?_)
     refine goes_ Tryz.func10 (by kernel_rfl) rfl #[.agg #[.int .i64 t.kids[i].kind, .string (M t.kids[i].sp), .string (M t.kids[i].nm), .slice A1 t.kids[i].attrs.length c1, .slice A2 t.kids[i].kids.length c2, .string (M t.kids[i].data)], .agg #[.int .i64 t.kids[i].kind, .string (M t.kids[i].sp), .string (M t.kids[i].nm), .slice D1 t.kids[i].attrs.length f1, .slice D2 t.kids[i].kids.length f2, .string (M t.kids[i].data)]] (by rfl) rfl rfl (by simp only [List.map_toArray, List.map_cons, List.map_nil]; rfl) ?_
     refine (HKD.out.2.2 t.kids[i] (List.getElem_mem hlt) HKK.out.1 HKK.out.2 KX.out.2.1).mono ?_
     rintro x V10 ⟨rfl, hq⟩
     have hbV := KX.out.1.trans (hq.mono KX.out.1.size)
     have h1V := KX.out.2.2.1.below hq KX.out.2.2.1.lt
     have h2V := KX.out.2.2.2.1.below hq KX.out.2.2.2.1.lt
     have hhV := KX.out.2.2.2.2 V10 hq
     have H9 := Aside0.mk (And.intro hbV (And.intro h1V h2V))
     refine ⟨_, rfl, ?_⟩
     refine hK.out _ _ hhV (fun hHeld => ?_)
     clear hK K hq hbV h1V h2V hhV
     simp only [Act.put, List.setIfInBounds_toArray, List.set_cons_zero, List.set_cons_succ]
     refine pu_ (i := 11) (N := some 87) (v := .bool false) (pl12 12) rfl rfl HT_ (by kernel_rfl) (fun _ _ _ h => h) (Or.inl ⟨by rfl, fun w' => by go_simp⟩) rfl ?_
     simp only [Act.put, List.setIfInBounds_toArray, List.set_cons_zero, List.set_cons_succ]
     refine done_ (done_of HT_.out (by kernel_rfl)) ?_
     clear hHeld KX
     go_wp2
     go_roundw
     case rel => exact ⟨i + 1, by go_num, by omega, H9⟩
     case measure => simp [intOf]; omega
    ·have HB9 := Lib.hid HL.out.1
     clear HL
     go_wp2
     go_ret
     exact ⟨rfl, HB9.out⟩
end Go.Proofs.YtadgeghipimfiaaGreatDoor.X
end
section
namespace Go.Proofs.YtadgeghipimfiaaGreatDoor.X
open Go.RowKit Go.Shelf Go.Proofs.YtadgeghipimfiaaGreatDoorW.PrintWords Go.Proofs.YtadgeghipimfiaaGreatDoor.F Go.Proofs.YtadgeghipimfiaaGreatDoor.Pg Go.Proofs.YtadgeghipimfiaaGreatDoor.Z
set_option linter.unusedVariables false
set_option linter.unusedSimpArgs false
mutual
theorem same_all : ∀ (t : Tr), TrB t → SameOk t
 | .mk k sp nm at_ kids d, hB => same_one hB (sames_all kids hB.open.2.2.2.2.2.2)
theorem sames_all : ∀ (l : List Tr), TrBs l → ∀ t ∈ l, SameOk t
 | [], _, _, h => by cases h
 | t :: l, hs, x, hx => by
   have hs : TrB t ∧ TrBs l := by
    unfold TrBs at hs
    exact hs
   rcases List.mem_cons.1 hx with hx | hx
   ·rw [hx]
    exact same_all t hs.1
   ·exact sames_all l hs.2 x hx
end
theorem same_calls {t : Tr} {w : World} {cs cs' : List Value} (hB : TrB t) (h : kTr.K w t cs) (h' : kTr.K w t cs') :
  Calls Tryz.prog 10 #[.agg cs.toArray, .agg cs'.toArray] w fun e w' => e = .returned (.bool true) ∧ Below w.heap.size w w' := same_all t hB h h' (Below.refl _ _)
structure SizeR (n : Nat) (most r : Int) : Prop where
 all : (n : Int) ≤ most → r = n
 more : most < (n : Int) → most < r
 low : 0 ≤ r
 high : r ≤ most + 1000000000000000
theorem szA_take {l : List At} {i : Nat} (h : i < l.length) : szA (l.take (i + 1)) = szA (l.take i) + (l[i].1.length + l[i].2.1.length + l[i].2.2.length) := by
 unfold szA
 rw [List.take_succ_eq_append_getElem h, List.map_append, List.sum_append]
 simp
theorem szA_take_le (l : List At) (i : Nat) : szA (l.take i) ≤ szA l := by
 have h : szA (l.take i) + szA (l.drop i) = szA l := by
  unfold szA
  rw [← List.sum_append, ← List.map_append, List.take_append_drop]
 omega
theorem szTs_append : ∀ (a b : List Tr), szTs (a ++ b) = szTs a + szTs b
 | [], b => by simp [szTs]
 | t :: a, b => by
   rw [List.cons_append, szTs_cons, szTs_cons, szTs_append a b]
   omega
theorem szTs_take {l : List Tr} {i : Nat} (h : i < l.length) : szTs (l.take (i + 1)) = szTs (l.take i) + szT l[i] := by
 rw [List.take_succ_eq_append_getElem h, szTs_append, szTs_cons]
 simp [szTs]
theorem szTs_take_le (l : List Tr) (i : Nat) : szTs (l.take i) ≤ szTs l := by
 have h : szTs (l.take i) + szTs (l.drop i) = szTs l := by rw [← szTs_append, List.take_append_drop]
 omega
structure SzI (n1 : Nat) (kids : List Tr) (most q : Int) (i : Nat) : Prop where
 all : q ≤ most → q = ((n1 + szTs (kids.take i) : Nat) : Int)
 more : most < q → most < ((n1 + szTs (kids.take i) : Nat) : Int)
 low : 0 ≤ q
 high : q ≤ most + 1000000000000000
theorem SzI.step {n1 : Nat} {kids : List Tr} {most q r : Int} {i : Nat} (h : SzI n1 kids most q i) (hq : q ≤ most) (hi : i < kids.length) (hr : SizeR (szT kids[i]) (most - q) r) : SzI n1 kids most (q + r) (i + 1) := by
 have h1 := h.all hq
 have h2 := hr.all
 have h3 := hr.more
 have h4 := hr.low
 have h5 := hr.high
 have h6 := h.low
 have h7 := szTs_take hi
 exact ⟨fun h => by rw [h7]; omega, fun h => by rw [h7]; omega, by omega, by omega⟩
theorem SzI.fin {n1 : Nat} {kids : List Tr} {most q : Int} {i : Nat} (h : SzI n1 kids most q i) (hi : i = kids.length ∨ most < q) : SizeR (n1 + szTs kids) most q := by
 have h1 := h.all
 have h2 := h.more
 have h3 := szTs_take_le kids i
 rcases hi with hi | hi
 ·have h4 : kids.take i = kids := List.take_of_length_le (by omega)
  rw [h4] at h1 h2
  exact ⟨fun hh => by omega, fun hh => by omega, h.low, h.high⟩
 ·have := h2 hi
  exact ⟨fun hh => by omega, fun _ => hi, h.low, h.high⟩
def SizeOk (t : Tr) : Prop := ∀ {w0 : World} {cs : List Value}, kTr.K w0 t cs → ∀ {w : World}, Below w0.heap.size w0 w → ∀ most : Int, 0 ≤ most → most ≤ 3000 →
 Calls Tryz.prog 5 #[.agg cs.toArray, .int .i64 most] w fun e w' => ∃ r, e = .returned (.int .i64 r) ∧ SizeR (szT t) most r ∧ Below w.heap.size w w'
set_option maxRecDepth 100000 in
set_option maxHeartbeats 8000000 in
theorem size_one {k : Int} {sp nm d : Bs} {at_ : List At} {kids : List Tr} (hBt : TrB (.mk k sp nm at_ kids d)) (hkid : ∀ t ∈ kids, SizeOk t) : SizeOk (.mk k sp nm at_ kids d) := by
 intro w0 cs hK w hw most hm0 hm1
 obtain ⟨A, c, B, e, hcs0, hca, hA, hke, hB⟩ := kTr_openK hK
 have hcs : cs = [.int .i64 k, .string (M sp), .string (M nm), .slice A at_.length c, .slice B kids.length e, .string (M d)] := hcs0
 have hA : kAttr.C w0 A at_.length at_ := hA
 have hB : kTr.C w0 B kids.length kids := hB
 obtain ⟨b1, b2, b3, b4, b5, b6, b7⟩ := hBt.open
 clear hcs0 hca hke hK hBt
 subst hcs
 have hb0 : Below w.heap.size w (w.alloc (.cells #[.int .i64 k, .string (M sp), .string (M nm), .slice A at_.length c, .slice B kids.length e, .string (M d)] 25)) := (Below.refl _ _).alloc (Nat.le_refl _) _
 have hbx := Blk.new w #[.int .i64 k, .string (M sp), .string (M nm), .slice A at_.length c, .slice B kids.length e, .string (M d)] 25
 have x1 := hbx.cell 1
 have x2 := hbx.cell 2
 have x3 := hbx.cell 3
 have x5 := hbx.cell 5
 obtain ⟨n0, hn0⟩ : ∃ n0 : Nat, n0 = 1 + at_.length + d.length + sp.length + nm.length := ⟨_, rfl⟩
 have hn0' : 1 + (at_.length : Int) + (d.length : Int) + (sp.length : Int) + (nm.length : Int) = (n0 : Int) := by omega
 have hn1 : (n0 : Int) ≤ 1000000000000000 := by omega
 have hn2 : (n0 : Int) ≤ most + 1000000000000000 := by omega
 have hsz : szT (.mk k sp nm at_ kids d) = n0 + szA at_ + szTs kids := by rw [szT_eq, hn0]
 rw [hsz]
 have e1 : IntKind.i64.wrap (1 + (at_.length : Int)) = 1 + (at_.length : Int) := IntWalk.i64_in _ (by omega)
 have e2 : IntKind.i64.wrap (1 + (at_.length : Int) + (d.length : Int)) = 1 + (at_.length : Int) + (d.length : Int) := IntWalk.i64_in _ (by omega)
 have e3 : IntKind.i64.wrap (1 + (at_.length : Int) + (d.length : Int) + (sp.length : Int)) = 1 + (at_.length : Int) + (d.length : Int) + (sp.length : Int) := IntWalk.i64_in _ (by omega)
 have e4 : IntKind.i64.wrap (1 + (at_.length : Int) + (d.length : Int) + (sp.length : Int) + (nm.length : Int)) = 1 + (at_.length : Int) + (d.length : Int) + (sp.length : Int) + (nm.length : Int) := IntWalk.i64_in _ (by omega)
 rw [hn0'] at e4
 have e5 : wrap64 (1 + (at_.length : Int) + (d.length : Int) + (sp.length : Int) + (nm.length : Int)) = (n0 : Int) := by rw [hn0', U.w64 (by omega) (by omega)]
 have hla : at_.length < 140737488355328 := b4
 have hlk : kids.length < 140737488355328 := b5
 have HA := Lib.hid (And.intro hA (And.intro b4 b6))
 have HKD := Lib.hid (And.intro hB (And.intro hkid b5))
 have HW := Lib.hid hw
 have HI := Aside0.mk (And.intro hb0 (And.intro hbx (And.intro (show (n0 : Int) = ((n0 + szA (at_.take 0) : Nat) : Int) by simp [szA]) hn2)))
 clear hA hB hkid hw hb0 hbx b1 b2 b3 b4 b5 b6 b7 hn0 hn0' hsz hn1 hn2
 go_enter Tryz.func5, Tryz.ntmps5
 go_wp2_with fail
 clear x1 x2 x3 x5 e1 e2 e3 e4
 rw [e5]
 clear e5
 go_loopw [5, 6] (fun v5 v6 wr => ∃ (i : Nat) (q : Int), v6 = .int .i64 i ∧ v5 = .int .i64 q ∧ i ≤ at_.length ∧ Aside0 (Below w.heap.size w wr ∧ Blk wr w.heap.size #[.int .i64 k, .string (M sp), .string (M nm), .slice A at_.length c, .slice B kids.length e, .string (M d)] 25 ∧ q = ((n0 + szA (at_.take i) : Nat) : Int) ∧ q ≤ most + 1000000000000000)) (fun _ v6 _ => at_.length - (intOf v6).toNat)
 case atStart => exact ⟨0, _, rfl, rfl, by omega, HI⟩
 case round =>
  obtain ⟨i, q, rfl, rfl, hi, HL⟩ := hrel
  have x3 := HL.out.2.1.cell 3
  by_cases hgo : i < at_.length ∧ q ≤ most
  ·obtain ⟨hlt, hqm⟩ := hgo
   have HD : ∀ n, Aside0 (Below w.heap.size w (wr.drewN n) ∧ Blk (wr.drewN n) w.heap.size #[.int .i64 k, .string (M sp), .string (M nm), .slice A at_.length c, .slice B kids.length e, .string (M d)] 25) := fun n => ⟨HL.out.1.trans ((below_drewN wr n).mono HL.out.1.size), HL.out.2.1.below (below_drewN wr n) HL.out.2.1.lt⟩
   have hww := HW.out.trans (HL.out.1.mono HW.out.size)
   obtain ⟨ad, hAa, c0, c1, c2⟩ := attr_at (Kd.C_below (d := kAttr) HA.out.1 hww) i hlt
   have hs := HA.out.2.2 at_[i] (List.getElem_mem hlt)
   have hq0 : 0 ≤ q := by rw [HL.out.2.2.1]; omega
   have f3 : wrap64 (wrap64 (wrap64 (q + (at_[i].1.length : Int)) + (at_[i].2.1.length : Int)) + (at_[i].2.2.length : Int)) = q + (at_[i].1.length : Int) + (at_[i].2.1.length : Int) + (at_[i].2.2.length : Int) := by
    rw [U.w64 (x := q + (at_[i].1.length : Int)) (by omega) (by omega), U.w64 (x := q + (at_[i].1.length : Int) + (at_[i].2.1.length : Int)) (by omega) (by omega), U.w64 (by omega) (by omega)]
   have HQ := Lib.hid (show q + (at_[i].1.length : Int) + (at_[i].2.1.length : Int) + (at_[i].2.2.length : Int) = ((n0 + szA (at_.take (i + 1)) : Nat) : Int) ∧ q + (at_[i].1.length : Int) + (at_[i].2.1.length : Int) + (at_[i].2.2.length : Int) ≤ most + 1000000000000000 by
    rw [szA_take hlt, HL.out.2.2.1]
    have := HL.out.2.2.1
    omega)
   have HF := Lib.hid f3
   subst hAa
   clear hww hs hq0 f3
   go_wp2
   go_quiet (fail)
   go_wp2
   go_roundw
   case rel => exact ⟨i + 1, _, by go_num, congrArg (Value.int .i64) HF.out, by omega, ⟨(HD _).out.1, (HD _).out.2, HQ.out.1, HQ.out.2⟩⟩
   case measure => simp [intOf]; omega
  ·have hI2 : SzI (n0 + szA at_) kids most q 0 := by
    have h1 := HL.out.2.2.1
    have h2 := szA_take_le at_ i
    have h3 : szTs (kids.take 0) = 0 := by simp [szTs]
    refine ⟨fun h => ?_, fun h => ?_, by omega, HL.out.2.2.2⟩
    ·have h4 : at_.take i = at_ := List.take_of_length_le (by omega)
     rw [h4] at h1
     rw [h3, h1]
     rfl
    ·rw [h3]
     omega
   have HI2 := Aside0.mk (And.intro HL.out.1 (And.intro HL.out.2.1 hI2))
   have hcs : ¬ i < at_.length ∨ (i < at_.length ∧ most < q) := by omega
   clear HL hgo hI2
   rcases hcs with hcs | ⟨hcs, hqm⟩
   all_goals (
    go_wp2_with fail
    clear x3 hcs
    go_loopw [5, 7] (fun v5 v7 wr => ∃ (i : Nat) (q : Int), v7 = .int .i64 i ∧ v5 = .int .i64 q ∧ i ≤ kids.length ∧ Aside0 (Below w.heap.size w wr ∧ Blk wr w.heap.size #[.int .i64 k, .string (M sp), .string (M nm), .slice A at_.length c, .slice B kids.length e, .string (M d)] 25 ∧ SzI (n0 + szA at_) kids most q i)) (fun _ v7 _ => kids.length - (intOf v7).toNat)
    case atStart => exact ⟨0, _, rfl, rfl, by omega, HI2⟩
    case round =>
     obtain ⟨i, q, rfl, rfl, hi, HL⟩ := hrel
     have x4 := HL.out.2.1.cell 4
     by_cases hgo : i < kids.length ∧ q ≤ most
     ·obtain ⟨hlt, hqm⟩ := hgo
      have hww := HW.out.trans (HL.out.1.mono HW.out.size)
      obtain ⟨ad, A1, c1, A2, c2, hBa, hk1, k0, k1, k2, k3, k4, k5⟩ := node_at HKD.out.1 hww i hlt
      have hq0 := HL.out.2.2.low
      have f1 : IntKind.i64.wrap (most - q) = most - q := IntWalk.i64_in _ (by omega)
      have f1' : wrap64 (most - q) = most - q := U.w64 (by omega) (by omega)
      have HC := Lib.hid (HKD.out.2.1 kids[i] (List.getElem_mem hlt) hk1 (w := wr) hww (most - q) (by omega) (by omega))
      subst hBa
      clear hww hk1
      go_wp2_with fail
      refine HC.out.mono ?_
      rintro x W5 ⟨r, rfl, hr, h5⟩
      have hb5 := HL.out.1.trans (h5.mono HL.out.1.size)
      have hx5 := HL.out.2.1.below h5 HL.out.2.1.lt
      have f2 : wrap64 (q + r) = q + r := U.w64 (by have := hr.low; omega) (by have := hr.high; omega)
      have H9 := Aside0.mk (And.intro hb5 (And.intro hx5 (HL.out.2.2.step hqm hlt hr)))
      have HF := Lib.hid f2
      clear hb5 hx5 h5 HC k0 k1 k2 k3 k4 k5 x4 f1 f1' f2 hr
      go_wp2
      go_roundw
      case rel => exact ⟨i + 1, _, by go_num, congrArg (Value.int .i64) HF.out, by omega, H9⟩
      case measure => simp [intOf]; omega
     ·have hfin := HL.out.2.2.fin (by omega)
      have HB9 := Lib.hid (And.intro hfin HL.out.1)
      have hcs : ¬ i < kids.length ∨ (i < kids.length ∧ most < q) := by omega
      clear HL hgo hfin
      rcases hcs with hcs | ⟨hcs, hqm⟩
      ·go_wp2
       go_ret
       exact ⟨q, rfl, HB9.out.1, HB9.out.2⟩
      ·go_wp2
       go_ret
       exact ⟨q, rfl, HB9.out.1, HB9.out.2⟩)
mutual
theorem size_all : ∀ (t : Tr), TrB t → SizeOk t
 | .mk k sp nm at_ kids d, hB => size_one hB (sizes_all kids hB.open.2.2.2.2.2.2)
theorem sizes_all : ∀ (l : List Tr), TrBs l → ∀ t ∈ l, SizeOk t
 | [], _, _, h => by cases h
 | t :: l, hs, x, hx => by
   have hs : TrB t ∧ TrBs l := by
    unfold TrBs at hs
    exact hs
   rcases List.mem_cons.1 hx with hx | hx
   ·rw [hx]
    exact size_all t hs.1
   ·exact sizes_all l hs.2 x hx
end
theorem size_calls {t : Tr} {w : World} {cs : List Value} (hB : TrB t) (h : kTr.K w t cs) :
  Calls Tryz.prog 5 #[.agg cs.toArray, .int .i64 3000] w fun e w' => ∃ r, e = .returned (.int .i64 r) ∧ SizeR (szT t) 3000 r ∧ Below w.heap.size w w' := size_all t hB h (Below.refl _ _) 3000 (by decide) (by decide)
end Go.Proofs.YtadgeghipimfiaaGreatDoor.X
end
section
namespace Go.Proofs.YtadgeghipimfiaaGreatDoor.Z
open Go.Proofs.YtadgeghipimfiaaGreatDoor.U Go.Proofs.YtadgeghipimfiaaGreatDoor.X Go.Lib
set_option linter.unusedVariables false
set_option linter.unusedSimpArgs false
theorem szA_mem : ∀ (l : List At) (a : At), a ∈ l → a.1.length + a.2.1.length + a.2.2.length ≤ szA l
 | [], _, h => by cases h
 | b :: l, a, h => by
   rw [szA_cons]
   rcases List.mem_cons.1 h with h | h
   ·rw [h]; omega
   ·have := szA_mem l a h
    omega
theorem szTs_len : ∀ l : List Tr, l.length ≤ szTs l
 | [] => Nat.zero_le _
 | .mk k sp nm at_ kids d :: l => by
   rw [szTs_cons, szT_eq, List.length_cons]
   have := szTs_len l
   omega
mutual
theorem small_of : ∀ t : Tr, szT t ≤ 1000000 → TrSm 1000000 t
 | .mk k sp nm at_ kids d, h => by
   rw [szT_eq] at h
   unfold TrSm
   have hk := szTs_len kids
   exact ⟨by omega, by omega, by omega, by omega, fun a ha => by have := szA_mem at_ a ha; omega, by omega, smalls_of kids (by omega)⟩
theorem smalls_of : ∀ l : List Tr, szTs l ≤ 1000000 → TrsSm 1000000 l
 | [], _ => by unfold TrsSm; trivial
 | t :: l, h => by
   rw [szTs_cons] at h
   unfold TrsSm
   exact ⟨small_of t (by omega), smalls_of l (by omega)⟩
end
mutual
theorem toks_len : ∀ (t : Tr) (up : Bs), (toks t up).length ≤ 2 * szT t
 | .mk k sp nm at_ kids d, up => by
   have ih := tokss_len kids sp
   unfold toks
   rw [szT_eq]
   repeat' split
   all_goals simp
   all_goals omega
theorem tokss_len : ∀ (l : List Tr) (up : Bs), (tokss l up).length ≤ 2 * szTs l
 | [], _ => by unfold tokss; exact Nat.zero_le _
 | t :: l, up => by
   unfold tokss
   rw [szTs_cons, List.length_append]
   have h1 := toks_len t up
   have h2 := tokss_len l up
   omega
end
theorem lines_no : ∀ l : Bs, (∀ c ∈ l, c ≠ 13) → linesL l = l
 | [], _ => rfl
 | c :: t, h => by rw [linesL_cons_ne c t (h c List.mem_cons_self), lines_no t fun d hd => h d (List.mem_cons_of_mem _ hd)]
theorem Good.check {l : Bs} {n : Nat} (h : Good l n) : checkR (M l) = 0 := by
 rw [show checkR (M l) = checkL l.length l from U.checkR_eq l]
 have := h.ok
 unfold textOk at this
 exact beq_iff_eq.1 this
theorem Good.lines {l : Bs} {n : Nat} (h : Good l n) : linesL l = l := lines_no l h.no
theorem M_app (a b : Bs) : M a ++ M b = M (a ++ b) := B_append a b
end Go.Proofs.YtadgeghipimfiaaGreatDoor.Z
end
section
namespace Go.Proofs.YtadgeghipimfiaaGreatDoor.X
open Go.RowKit Go.Shelf Go.Proofs.YtadgeghipimfiaaGreatDoorW.PrintWords Go.Proofs.YtadgeghipimfiaaGreatDoor.F Go.Proofs.YtadgeghipimfiaaGreatDoor.Pg Go.Proofs.YtadgeghipimfiaaGreatDoor.Z Go.Proofs.YtadgeghipimfiaaGreatDoorW.PrintLast
set_option linter.unusedVariables false
set_option linter.unusedSimpArgs false
def treesT : Bool × List (List Nat × List Nat) := (true, [([], []), ([0], [0]), ([1], [1]), ([2, 1, 1], [1, 2]), ([3, 1], [1, 3]), ([1, 4], [1, 4]), ([5, 3], [5]), ([6], [6]), ([7, 6], [6, 7]), ([6, 8], [6, 8]), ([9, 6], [9]), ([10], [10]), ([10], [10]), ([11, 12, 10, 10], [10, 11, 12]), ([10, 13], [10, 13]), ([14, 13], [14]), ([15], [15]), ([16, 15], [15, 16]), ([17, 15, 15], [15, 17]), ([18], [18]), ([19, 18], [18, 19]), ([20, 18, 18], [18, 20]), ([21], [21]), ([22, 21], [21, 22]), ([23, 21], [21, 23]), ([24, 21], [21, 24]), ([21, 25, 18], [18, 21, 25]), ([26, 21, 18], [18, 26]), ([27], [27]), ([28, 27], [27, 28]), ([29, 27], [27, 29]), ([30, 27], [27, 30]), ([27], [27]), ([31, 32, 27, 27], [27, 31, 32]), ([27, 33, 18], [18, 27, 33]), ([18, 34, 15], [15, 18, 34]), ([15, 35], [15, 35]), ([36, 33, 0, 1, 2, 3, 4, 5, 6, 7, 8, 9, 10, 11, 12, 13, 14, 15, 16, 17, 18, 19, 20, 21, 22, 23, 24, 25, 26, 27, 28, 29, 30, 31, 32, 33, 34, 35, 36], [36])])
def treesB : List Nat := [0, 1, 3, 7, 15, 31, 63, 127, 255, 511, 1023, 2047, 2047, 8191, 16383, 32767, 65535, 131071, 262143, 524287, 1048575, 2097151, 4194303, 8388607, 16777215, 33554431, 67108863, 134217727, 268435455, 536870911, 1073741823, 2147483647, 268435455, 8589934591, 17179869183, 34359738367, 68719476735, 137438953471]
theorem trees_tab : rtab .any (opsOf Tryz.f3 11) = treesT := by kernel_rfl
theorem trees_bits : waitsOk treesT.2 treesB = true := by kernel_rfl
def pl38 (k : Nat) : Array Bool := ((List.range 38).map fun i => decide (i < k)).toArray
structure Hd (w : World) (t : Tr) (sl : Bs) (tn ta : List Value) (b6 : Nat) (v : World) : Prop where
 below : Below w.heap.size w v
 glob : Glob v
 good : Z.Good sl 99000
 big : TrB t
 bn : Blk v w.heap.size tn.toArray 25
 ba : Blk v b6 ta.toArray 25
 kn : kTr.K v t tn
 ka : kTr.K v t ta
theorem Hd.step {w v v' : World} {t : Tr} {sl : Bs} {tn ta : List Value} {b6 : Nat} (h : Hd w t sl tn ta b6 v) (hq : Below v.heap.size v v') : Hd w t sl tn ta b6 v' :=
 ⟨h.below.trans (hq.mono h.below.size), h.glob.below hq, h.good, h.big, h.bn.below hq h.bn.lt, h.ba.below hq h.ba.lt, kTr.K_below hq h.kn, kTr.K_below hq h.ka⟩
structure Kd1 (t : Tr) (tb tk : List Value) (b8 : Nat) (ad : Addr) (v : World) : Prop where
 bb : Blk v b8 tb.toArray 25
 kk : kTr.K v t tk
 at_ : ∀ i u, tk[i]? = some u → v.cell? (ad.add i) = some u
theorem Kd1.step {v v' : World} {t : Tr} {tb tk : List Value} {b8 : Nat} {ad : Addr} (h : Kd1 t tb tk b8 ad v) (hq : Below v.heap.size v v') : Kd1 t tb tk b8 ad v' :=
 ⟨h.bb.below hq h.bb.lt, kTr.K_below hq h.kk, fun i u hu => (hq.cell (World.block_lt_of_cell? v _ (h.at_ i u hu))).trans (h.at_ i u hu)⟩
theorem check0 {w v : World} {t : Tr} {sl : Bs} {tn ta : List Value} {b6 : Nat} (h : Hd w t sl tn ta b6 v) : Calls Tryz.prog 9 #[.string (M sl)] v fun e w' => e = .returned (.int .i64 0) ∧ Below v.heap.size v w' := by
 have := check_calls (M sl) v h.glob (by have := h.good.len; show sl.length ≤ _; omega)
 rw [h.good.check] at this
 exact this
theorem kid_one {w : World} {Bk : Option Addr} {t : Tr} (h : kTr.C w Bk 1 [t]) : ∃ ad tk, Bk = some ad ∧ kTr.K w t tk ∧ ∀ i u, tk[i]? = some u → w.cell? (ad.add i) = some u := by
 obtain ⟨ad, e, hx⟩ := h.2.2 (by decide)
 obtain ⟨c, _, hk, hc⟩ := hx 0 t rfl
 exact ⟨ad, c, e, hk, fun i u hu => by have := hc i u hu; rwa [Nat.zero_mul, Nat.zero_add] at this⟩
theorem heldA {w v : World} {t : Tr} {sl : Bs} {A A1 Bk B1 : Option Addr} {c c1 e e1 b6 : Nat} (h : Hd w t sl [.int .i64 t.kind, .string (M t.sp), .string (M t.nm), .slice A t.attrs.length c, .slice Bk t.kids.length e, .string (M t.data)] [.int .i64 t.kind, .string (M t.sp), .string (M t.nm), .slice A1 t.attrs.length c1, .slice B1 t.kids.length e1, .string (M t.data)] b6 v) : v.cell? ⟨b6, 0, none⟩ = some (.int .i64 t.kind) ∧ v.cell? ⟨b6, 1, none⟩ = some (.string (M t.sp)) ∧ v.cell? ⟨b6, 2, none⟩ = some (.string (M t.nm)) ∧ v.cell? ⟨b6, 3, none⟩ = some (.slice A1 t.attrs.length c1) ∧ v.cell? ⟨b6, 4, none⟩ = some (.slice B1 t.kids.length e1) ∧ v.cell? ⟨b6, 5, none⟩ = some (.string (M t.data)) ∧ True := ⟨h.ba.cell 0, h.ba.cell 1, h.ba.cell 2, h.ba.cell 3, h.ba.cell 4, h.ba.cell 5, trivial⟩
theorem heldN {w v : World} {t : Tr} {sl : Bs} {A A1 Bk B1 : Option Addr} {c c1 e e1 b6 : Nat} (h : Hd w t sl [.int .i64 t.kind, .string (M t.sp), .string (M t.nm), .slice A t.attrs.length c, .slice Bk t.kids.length e, .string (M t.data)] [.int .i64 t.kind, .string (M t.sp), .string (M t.nm), .slice A1 t.attrs.length c1, .slice B1 t.kids.length e1, .string (M t.data)] b6 v) : v.cell? ⟨w.heap.size, 0, none⟩ = some (.int .i64 t.kind) ∧ v.cell? ⟨w.heap.size, 1, none⟩ = some (.string (M t.sp)) ∧ v.cell? ⟨w.heap.size, 2, none⟩ = some (.string (M t.nm)) ∧ v.cell? ⟨w.heap.size, 3, none⟩ = some (.slice A t.attrs.length c) ∧ v.cell? ⟨w.heap.size, 4, none⟩ = some (.slice Bk t.kids.length e) ∧ v.cell? ⟨w.heap.size, 5, none⟩ = some (.string (M t.data)) ∧ True := ⟨h.bn.cell 0, h.bn.cell 1, h.bn.cell 2, h.bn.cell 3, h.bn.cell 4, h.bn.cell 5, trivial⟩
theorem heldB {v : World} {t : Tr} {tk : List Value} {A2 : Option Addr} {ad : Addr} {c2 e8 b8 : Nat} (h : Kd1 t [.int .i64 (inX t).kind, .string (M (inX t).sp), .string (M (inX t).nm), .slice A2 (inX t).attrs.length c2, .slice (some ad) (inX t).kids.length e8, .string (M (inX t).data)] tk b8 ad v) : v.cell? ⟨b8, 4, none⟩ = some (.slice (some ad) 1 e8) := h.bb.cell 4
theorem heldK {v : World} {t : Tr} {tb : List Value} {A3 B3 : Option Addr} {ad : Addr} {c3 e3 b8 : Nat} (h : Kd1 t tb [.int .i64 t.kind, .string (M t.sp), .string (M t.nm), .slice A3 t.attrs.length c3, .slice B3 t.kids.length e3, .string (M t.data)] b8 ad v) : v.cell? ad = some (.int .i64 t.kind) ∧ v.cell? ⟨ad.block, ad.off + 1, none⟩ = some (.string (M t.sp)) ∧ v.cell? ⟨ad.block, ad.off + 2, none⟩ = some (.string (M t.nm)) ∧ v.cell? ⟨ad.block, ad.off + 3, none⟩ = some (.slice A3 t.attrs.length c3) ∧ v.cell? ⟨ad.block, ad.off + 4, none⟩ = some (.slice B3 t.kids.length e3) ∧ v.cell? ⟨ad.block, ad.off + 5, none⟩ = some (.string (M t.data)) ∧ True := ⟨h.at_ 0 _ rfl, h.at_ 1 _ rfl, h.at_ 2 _ rfl, h.at_ 3 _ rfl, h.at_ 4 _ rfl, h.at_ 5 _ rfl, trivial⟩
set_option maxRecDepth 100000 in
set_option maxHeartbeats 16000000 in
theorem trees_calls {t : Tr} {w : World} {cs : List Value} (hG : Glob w) (hK : kTr.K w t cs) (hB : TrB t) :
  Calls Tryz.prog 3 #[.agg cs.toArray] w fun e w' => e = .returned (.bool true) ∧ Below w.heap.size w w' := by
 obtain ⟨A, c, Bk, e, hcs, hca, hA, hke, hkB⟩ := kTr_openK hK
 clear hca hke hA hkB
 subst hcs
 have hb0 : Below w.heap.size w (w.alloc (.cells (trC t A c Bk e).toArray 25)) := (Below.refl _ _).alloc (Nat.le_refl _) _
 have hbx := Blk.new w (trC t A c Bk e).toArray 25
 have HG := Lib.hid hG
 have HK := Lib.hid (And.intro hK hB)
 have HB0 := Lib.hid (And.intro hb0 hbx)
 clear hG hK hB hb0 hbx
 go_enter Tryz.func3, Tryz.ntmps3
 go_wp2_with fail
 refine (alive_calls _ (HG.out.below HB0.out.1)).mono ?_
 rintro x W1 ⟨rfl, h1⟩
 have hb1 := HB0.out.1.trans (h1.mono HB0.out.1.size)
 have hx1 := HB0.out.2.below h1 HB0.out.2.lt
 have x0 := hx1.cell 0
 have x1 := hx1.cell 1
 have x2 := hx1.cell 2
 have x3 := hx1.cell 3
 have x4 := hx1.cell 4
 have x5 := hx1.cell 5
 have HS := Lib.hid (size_calls HK.out.2 (kTr.K_below hb1 HK.out.1))
 have HB1 := Lib.hid (And.intro hb1 hx1)
 clear h1 hb1 hx1 HB0
 go_wp2_with fail
 refine HS.out.mono ?_
 rintro x W2 ⟨r, rfl, hr, h2⟩
 have hb2 := HB1.out.1.trans (h2.mono HB1.out.1.size)
 have hx2 := HB1.out.2.below h2 HB1.out.2.lt
 clear x0 x1 x2 x3 x4 x5
 have x0 := hx2.cell 0
 have x1 := hx2.cell 1
 have x2 := hx2.cell 2
 have x3 := hx2.cell 3
 have x4 := hx2.cell 4
 have x5 := hx2.cell 5
 have HB2 := Lib.hid (And.intro hb2 hx2)
 have HR := Lib.hid hr
 clear h2 HB1 HS hr
 by_cases hsz : szT t ≤ 3000
 ·have hr3 : ¬ (3000 : Int) < r := by have := HR.out.all (by omega); omega
  obtain ⟨md, hmd⟩ : ∃ md, md = mayDoc t := ⟨_, rfl⟩
  have hP := sprint_calls escape_ok (HG.out.below hb2) (kTr.K_below hb2 HK.out.1) (small_of t (by omega)) (.inl leaf_pi) (fun h => by
   have := (good_spell t [] 1 (may_of h).2).len
   omega)
  have hQ : printV t = if md = true then (spell t [], 0) else ([], 30) := by
   unfold printV
   rw [← hmd]
   cases md with
   | false => rfl
   | true =>
     have := (good_spell t [] 1 (may_of hmd.symm).2).len
     rw [if_pos rfl, if_pos rfl, if_pos (by omega)]
  rw [hQ] at hP
  have HS := Lib.hid hP
  have HMD := Lib.hid (And.intro hmd hsz)
  clear hP hQ hb2 hx2 hmd hsz
  cases md with
  | false =>
    rw [if_neg (by decide)] at HS
    go_wp2_with fail
    refine HS.out.mono ?_
    rintro x W3 ⟨rfl, h3⟩
    have hb3 := HB2.out.1.trans (h3.mono HB2.out.1.size)
    have hx3 := HB2.out.2.below h3 HB2.out.2.lt
    clear x0 x1 x2 x3 x4 x5
    have x0 := hx3.cell 0
    have x1 := hx3.cell 1
    have x2 := hx3.cell 2
    have x3 := hx3.cell 3
    have x4 := hx3.cell 4
    have x5 := hx3.cell 5
    have hR := right_calls (kTr.K_below hb3 HK.out.1) HK.out.2
    rw [← HMD.out.1] at hR
    have HRT := Lib.hid hR
    have HB3 := Lib.hid hb3
    clear hR h3 hb3 hx3 HS HB2
    go_wp2_with fail
    refine HRT.out.mono ?_
    rintro x W4 ⟨rfl, h4⟩
    have HB4 := Lib.hid (HB3.out.trans (h4.mono HB3.out.size))
    clear h4
    go_wp2
    go_ret
    exact ⟨rfl, HB4.out⟩
  | true =>
    rw [if_pos rfl] at HS
    have hgs := good_spell t [] 1 (may_of HMD.out.1.symm).2
    have hgA := good_docA HMD.out.1.symm
    have hnA := nxs_docA HMD.out.1.symm
    have hxA := gxs_docA HMD.out.1.symm
    have hgX := good_docX HMD.out.1.symm
    have hnX := nxs_docX HMD.out.1.symm
    have htl := toks_len t []
    have hstk := fun h => stuck_docX HMD.out.1.symm h
    obtain ⟨sl, hsl⟩ : ∃ sl, sl = spell t [] := ⟨_, rfl⟩
    rw [← hsl] at HS hgs hgA hnA hgX hnX
    have hinX : spell (inX t) [] = pX ++ (sl ++ qX) := by rw [hsl]; exact spell_inX t
    have HZ := Lib.hid (And.intro (hgs.mono (m := 99000) (by have := HMD.out.2; omega)) (And.intro htl hinX))
    have HZA := Lib.hid (And.intro hgA (And.intro hnA hxA))
    have HZX := Lib.hid (And.intro hgX (And.intro hnX hstk))
    have HSL := Lib.hid hsl
    clear hgs hgA hnA hxA hgX hnX htl hstk hinX hsl
    go_wp2_with fail
    refine HS.out.mono ?_
    rintro x W3 ⟨rfl, h3⟩
    have hb3 := HB2.out.1.trans (h3.mono HB2.out.1.size)
    have hx3 := HB2.out.2.below h3 HB2.out.2.lt
    have HB3 := Lib.hid (And.intro hb3 hx3)
    clear x0 x1 x2 x3 x4 x5 h3 hb3 hx3 HB2 HS
    have z1 : 29 + sl.length ≤ 9223372036854775807 := by have := HZ.out.1.len; omega
    have z2 : 29 + sl.length + 6 ≤ 9223372036854775807 := by have := HZ.out.1.len; omega
    have z3 : 3 + sl.length ≤ 9223372036854775807 := by have := HZ.out.1.len; omega
    have z4 : 3 + sl.length + 4 ≤ 9223372036854775807 := by have := HZ.out.1.len; omega
    go_wp2_with fail
    rw [show ((⟨#[60, 63, 120, 109, 108, 32, 118, 101, 114, 115, 105, 111, 110, 61, 34, 49, 46, 48, 34, 63, 62, 60, 33, 45, 45, 99, 45, 45, 62]⟩ : ByteArray) ++ M sl ++ (⟨#[10, 60, 63, 112, 63, 62]⟩ : ByteArray)) = M (pA ++ (sl ++ qA)) from by
     show M pA ++ M sl ++ M qA = _
     rw [M_app, M_app, List.append_assoc]]
    refine (gparse_calls (pA ++ (sl ++ qA)) (tkA t) t W3 (HG.out.below HB3.out.1) (by have := HZA.out.1.len; have := HMD.out.2; omega) HZA.out.1.check HZA.out.1.lines HZA.out.2.1 (.inl decl_ok) (by have := HZ.out.2.1; have := HMD.out.2; unfold tkA; simp; omega) HZA.out.2.2).mono ?_
    rintro x W4 ⟨cs1, rfl, hM1, h4⟩
    obtain ⟨va, vk, rfl, ha, hk⟩ := kTr_openM hM1
    obtain ⟨A1, c1, rfl⟩ := Kd.R_slice ha
    obtain ⟨B1, e1, rfl⟩ := Kd.R_slice hk
    have hK1 := kTr.K_of_M hM1
    have hb4 := HB3.out.1.trans (h4.mono HB3.out.1.size)
    have hx4 := HB3.out.2.below h4 HB3.out.2.lt
    have ha4 : Below W4.heap.size W4 (W4.alloc (.cells (trC t A1 c1 B1 e1).toArray 25)) := (Below.refl _ _).alloc (Nat.le_refl _) _
    have hy4 := Blk.new W4 (trC t A1 c1 B1 e1).toArray 25
    have KX4 := Lib.hid (Hd.mk (w := w) (t := t) (sl := sl) (hb4.trans (ha4.mono hb4.size)) (HG.out.below (hb4.trans (ha4.mono hb4.size))) HZ.out.1 HK.out.2 (hx4.below ha4 hx4.lt) hy4 (kTr.K_below (hb4.trans (ha4.mono hb4.size)) HK.out.1) (kTr.K_below ha4 hK1))
    clear hM1 ha hk hK1 hb4 hx4 ha4 hy4 h4
    go_wp2_with fail
    generalize hb6 : W4.heap.size = b6 at *
    generalize W4.alloc (.cells _ 25) = W5 at *
    rw [show ((⟨#[60, 120, 62]⟩ : ByteArray) ++ M sl ++ (⟨#[60, 47, 120, 62]⟩ : ByteArray)) = M (pX ++ (sl ++ qX)) from by
     show M pX ++ M sl ++ M qX = _
     rw [M_app, M_app, List.append_assoc]]
    by_cases h2 : mayB t 2 = true
    ·have hmx := may_inX (may_of HMD.out.1.symm).1 h2
     have hxx := gxs_doc hmx ⟨[], some (inX t)⟩ [] (.nil _)
     have hnx := nxs_doc hmx true [] [] (.nil _)
     rw [List.append_nil, List.append_nil, HZ.out.2.2] at hnx
     rw [List.append_nil] at hxx
     have hlx := toks_len (inX t) []
     have hszx : szT (inX t) = szT t + 2 := by
      unfold inX
      rw [szT_eq, szTs_cons]
      unfold szTs szA
      simp
      omega
     refine (gparse_calls (pX ++ (sl ++ qX)) (toks (inX t) []) (inX t) W5 KX4.out.glob (by have := HZX.out.1.len; have := HMD.out.2; omega) HZX.out.1.check HZX.out.1.lines hnx (.inl decl_ok) (by have := HMD.out.2; omega) hxx).mono ?_
     rintro x W6 ⟨cs2, rfl, hM2, h6⟩
     clear hxx hnx hlx hszx hmx
     have hK2 := kTr.K_of_M hM2
     obtain ⟨A2, c2, B2, e8, rfl, _, _, _, hC2⟩ := kTr_openK hK2
     obtain ⟨ad, tk, hB2, hkk, hat⟩ := kid_one (t := t) hC2
     subst hB2
     obtain ⟨A3, c3, B3, e3, rfl, _⟩ := kTr_openK hkk
     have ha6 : Below W6.heap.size W6 (W6.alloc (.cells (trC (inX t) A2 c2 (some ad) e8).toArray 25)) := (Below.refl _ _).alloc (Nat.le_refl _) _
     have hy6 := Blk.new W6 (trC (inX t) A2 c2 (some ad) e8).toArray 25
     have KX0 := Lib.hid (And.intro ((KX4.out.step h6).step ha6) (Kd1.mk (t := t) (tb := trC (inX t) A2 c2 (some ad) e8) (tk := trC t A3 c3 B3 e3) (ad := ad) hy6 (kTr.K_below ha6 hkk) (fun i u hu => (ha6.cell (World.block_lt_of_cell? W6 _ (hat i u hu))).trans (hat i u hu))))
     clear hM2 hK2 hC2 hkk hat ha6 hy6 h6 KX4
     go_upto_region 11 with (fail)
     generalize W6.heap.size = b8 at *
     generalize W6.alloc (.cells _ 25) = W7 at *
     have KX := Lib.hid (And.intro (KX0.out.1.step (Below.refl _ _).drew) (KX0.out.2.step (Below.refl _ _).drew))
     refine start_ (n := 38) (S := fun w' => (w'.cell? ⟨b6, 0, none⟩ = some (.int .i64 t.kind) ∧ w'.cell? ⟨b6, 1, none⟩ = some (.string (M t.sp)) ∧ w'.cell? ⟨b6, 2, none⟩ = some (.string (M t.nm)) ∧ w'.cell? ⟨b6, 3, none⟩ = some (.slice A1 t.attrs.length c1) ∧ w'.cell? ⟨b6, 4, none⟩ = some (.slice B1 t.kids.length e1) ∧ w'.cell? ⟨b6, 5, none⟩ = some (.string (M t.data)) ∧ True) ∧ (w'.cell? ⟨w.heap.size, 0, none⟩ = some (.int .i64 t.kind) ∧ w'.cell? ⟨w.heap.size, 1, none⟩ = some (.string (M t.sp)) ∧ w'.cell? ⟨w.heap.size, 2, none⟩ = some (.string (M t.nm)) ∧ w'.cell? ⟨w.heap.size, 3, none⟩ = some (.slice A t.attrs.length c) ∧ w'.cell? ⟨w.heap.size, 4, none⟩ = some (.slice Bk t.kids.length e) ∧ w'.cell? ⟨w.heap.size, 5, none⟩ = some (.string (M t.data)) ∧ True) ∧ w'.cell? ⟨b8, 4, none⟩ = some (.slice (some ad) 1 e8) ∧ (w'.cell? ad = some (.int .i64 t.kind) ∧ w'.cell? ⟨ad.block, ad.off + 1, none⟩ = some (.string (M t.sp)) ∧ w'.cell? ⟨ad.block, ad.off + 2, none⟩ = some (.string (M t.nm)) ∧ w'.cell? ⟨ad.block, ad.off + 3, none⟩ = some (.slice A3 t.attrs.length c3) ∧ w'.cell? ⟨ad.block, ad.off + 4, none⟩ = some (.slice B3 t.kids.length e3) ∧ w'.cell? ⟨ad.block, ad.off + 5, none⟩ = some (.string (M t.data)) ∧ True)) (ds := []) (pl38 0) (by kernel_rfl) rfl rfl ⟨heldA KX.out.1, heldN KX.out.1, heldB KX.out.2, heldK KX.out.2⟩ (fun hHeld => ?_)
     refine with_tabW trees_tab trees_bits (fun HT_ HW_ => ?_)
     clear KX0
     generalize World.drew _ = v0 at KX hHeld ⊢
     refine pu_ (i := 0) (N := some 48) (v := .bool true) (pl38 1) rfl rfl HT_ (by kernel_rfl) (fun _ _ _ h => h) (Or.inl ⟨by rfl, fun w' => by go_simp⟩) rfl ?_
     simp only [Act.put, List.setIfInBounds_toArray, List.set_cons_zero, List.set_cons_succ]
     refine pu_ (i := 1) (N := some 49) (v := .bool true) (pl38 2) rfl rfl HT_ (by kernel_rfl) (fun _ _ _ h => h) (Or.inl ⟨by rfl, fun w' => by go_simp⟩) rfl ?_
     simp only [Act.put, List.setIfInBounds_toArray, List.set_cons_zero, List.set_cons_succ]
     refine pu_ (i := 2) (N := some 50) (v := .string (M sl)) (pl38 3) rfl rfl HT_ (by kernel_rfl) (fun _ _ _ h => h) (Or.inl ⟨by rfl, fun w' => by go_simp⟩) rfl ?_
     simp only [Act.put, List.setIfInBounds_toArray, List.set_cons_zero, List.set_cons_succ]
     refine one_ (i := 3) (N := some 51) (pl38 4) rfl rfl (one_of HT_.out (by kernel_rfl)) (by decide) (fun K hK => ?_)
     refine goes_ Tryz.func9 (by kernel_rfl) rfl #[.string (M sl)] (by rfl) rfl rfl (by simp only [List.map_toArray, List.map_cons, List.map_nil]; rfl) ?_
     refine (check0 KX.out.1).mono ?_
     rintro e V3 ⟨rfl, hq⟩
     have KX := Lib.hid (And.intro (KX.out.1.step hq) (KX.out.2.step hq))
     refine ⟨_, rfl, ?_⟩
     refine hK.out _ _ ⟨heldA KX.out.1, heldN KX.out.1, heldB KX.out.2, heldK KX.out.2⟩ (fun hHeld => ?_)
     clear hK K hq
     simp only [Act.put, List.setIfInBounds_toArray, List.set_cons_zero, List.set_cons_succ]
     refine pu_ (i := 4) (N := some 52) (v := .bool true) (pl38 5) rfl rfl HT_ (by kernel_rfl) (fun _ _ _ h => h) (Or.inl ⟨by rfl, fun w' => by go_simp⟩) rfl ?_
     simp only [Act.put, List.setIfInBounds_toArray, List.set_cons_zero, List.set_cons_succ]
     refine pu_ (i := 5) (N := some 53) (v := .bool true) (pl38 6) rfl rfl HT_ (by kernel_rfl) (fun _ _ _ h => h) (Or.inl ⟨by rfl, fun w' => by go_simp⟩) rfl ?_
     simp only [Act.put, List.setIfInBounds_toArray, List.set_cons_zero, List.set_cons_succ]
     refine pu_ (i := 6) (N := some 54) (v := .bool true) (pl38 7) rfl rfl HT_ (by kernel_rfl) (fun _ _ _ h => h) (Or.inl ⟨by rfl, fun w' => by go_simp⟩) rfl ?_
     simp only [Act.put, List.setIfInBounds_toArray, List.set_cons_zero, List.set_cons_succ]
     refine pu_ (i := 7) (N := some 55) (v := .int .i64 0) (pl38 8) rfl rfl HT_ (by kernel_rfl) (fun _ _ _ h => h) (Or.inl ⟨by rfl, fun w' => by go_simp⟩) rfl ?_
     simp only [Act.put, List.setIfInBounds_toArray, List.set_cons_zero, List.set_cons_succ]
     refine pu_ (i := 8) (N := some 56) (v := .bool true) (pl38 9) rfl rfl HT_ (by kernel_rfl) (fun _ _ _ h => h) (Or.inl ⟨by rfl, fun w' => by go_simp⟩) rfl ?_
     simp only [Act.put, List.setIfInBounds_toArray, List.set_cons_zero, List.set_cons_succ]
     refine pu_ (i := 9) (N := some 57) (v := .bool true) (pl38 10) rfl rfl HT_ (by kernel_rfl) (fun _ _ _ h => h) (Or.inl ⟨by rfl, fun w' => by go_simp⟩) rfl ?_
     simp only [Act.put, List.setIfInBounds_toArray, List.set_cons_zero, List.set_cons_succ]
     refine pu_ (i := 10) (N := some 58) (v := .bool true) (pl38 11) rfl rfl HT_ (by kernel_rfl) (fun _ _ _ h => h) (Or.inl ⟨by rfl, fun w' => by go_simp⟩) rfl ?_
     simp only [Act.put, List.setIfInBounds_toArray, List.set_cons_zero, List.set_cons_succ]
     refine take_ (i := 11) (N := some 59) (v := .agg #[.int .i64 t.kind, .string (M t.sp), .string (M t.nm), .slice A1 t.attrs.length c1, .slice B1 t.kids.length e1, .string (M t.data)]) (pl38 12) rfl rfl (take_ofW HT_.out HW_.out (by kernel_rfl)) (fun _ _ _ h => h) (Or.inl ⟨by rfl, fun w' hS => by obtain ⟨⟨hs0, hs1, hs2, hs3, hs4, hs5, _⟩, _⟩ := hS; go_simp⟩) hHeld rfl ?_
     simp only [Act.put, List.setIfInBounds_toArray, List.set_cons_zero, List.set_cons_succ]
     refine take_ (i := 12) (N := some 60) (v := .agg #[.int .i64 t.kind, .string (M t.sp), .string (M t.nm), .slice A t.attrs.length c, .slice Bk t.kids.length e, .string (M t.data)]) (pl38 13) rfl rfl (take_ofW HT_.out HW_.out (by kernel_rfl)) (fun _ _ _ h => h) (Or.inl ⟨by rfl, fun w' hS => by obtain ⟨_, ⟨hs0, hs1, hs2, hs3, hs4, hs5, _⟩, _⟩ := hS; go_simp⟩) hHeld rfl ?_
     simp only [Act.put, List.setIfInBounds_toArray, List.set_cons_zero, List.set_cons_succ]
     refine one_ (i := 13) (N := some 61) (pl38 14) rfl rfl (one_of HT_.out (by kernel_rfl)) (by decide) (fun K hK => ?_)
     refine goes_ Tryz.func10 (by kernel_rfl) rfl #[.agg #[.int .i64 t.kind, .string (M t.sp), .string (M t.nm), .slice A1 t.attrs.length c1, .slice B1 t.kids.length e1, .string (M t.data)], .agg #[.int .i64 t.kind, .string (M t.sp), .string (M t.nm), .slice A t.attrs.length c, .slice Bk t.kids.length e, .string (M t.data)]] (by rfl) rfl rfl (by simp only [List.map_toArray, List.map_cons, List.map_nil]; rfl) ?_
     refine (same_calls KX.out.1.big KX.out.1.ka KX.out.1.kn).mono ?_
     rintro e V13 ⟨rfl, hq⟩
     have KX := Lib.hid (And.intro (KX.out.1.step hq) (KX.out.2.step hq))
     refine ⟨_, rfl, ?_⟩
     refine hK.out _ _ ⟨heldA KX.out.1, heldN KX.out.1, heldB KX.out.2, heldK KX.out.2⟩ (fun hHeld => ?_)
     clear hK K hq
     simp only [Act.put, List.setIfInBounds_toArray, List.set_cons_zero, List.set_cons_succ]
     refine pu_ (i := 14) (N := some 62) (v := .bool true) (pl38 15) rfl rfl HT_ (by kernel_rfl) (fun _ _ _ h => h) (Or.inl ⟨by rfl, fun w' => by go_simp⟩) rfl ?_
     simp only [Act.put, List.setIfInBounds_toArray, List.set_cons_zero, List.set_cons_succ]
     refine pu_ (i := 15) (N := some 63) (v := .bool true) (pl38 16) rfl rfl HT_ (by kernel_rfl) (fun _ _ _ h => h) (Or.inl ⟨by rfl, fun w' => by go_simp⟩) rfl ?_
     simp only [Act.put, List.setIfInBounds_toArray, List.set_cons_zero, List.set_cons_succ]
     refine pu_ (i := 16) (N := some 64) (v := .int .i64 0) (pl38 17) rfl rfl HT_ (by kernel_rfl) (fun _ _ _ h => h) (Or.inl ⟨by rfl, fun w' => by go_simp⟩) rfl ?_
     simp only [Act.put, List.setIfInBounds_toArray, List.set_cons_zero, List.set_cons_succ]
     refine pu_ (i := 17) (N := some 65) (v := .bool false) (pl38 18) rfl rfl HT_ (by kernel_rfl) (fun _ _ _ h => h) (Or.inl ⟨by rfl, fun w' => by go_simp⟩) rfl ?_
     simp only [Act.put, List.setIfInBounds_toArray, List.set_cons_zero, List.set_cons_succ]
     refine pu_ (i := 18) (N := some 66) (v := .bool false) (pl38 19) rfl rfl HT_ (by kernel_rfl) (fun _ _ _ h => h) (Or.inl ⟨by rfl, fun w' => by go_simp⟩) rfl ?_
     simp only [Act.put, List.setIfInBounds_toArray, List.set_cons_zero, List.set_cons_succ]
     refine pu_ (i := 19) (N := some 67) (v := .int .i64 0) (pl38 20) rfl rfl HT_ (by kernel_rfl) (fun _ _ _ h => h) (Or.inl ⟨by rfl, fun w' => by go_simp⟩) rfl ?_
     simp only [Act.put, List.setIfInBounds_toArray, List.set_cons_zero, List.set_cons_succ]
     refine pu_ (i := 20) (N := some 68) (v := .bool true) (pl38 21) rfl rfl HT_ (by kernel_rfl) (fun _ _ _ h => h) (Or.inl ⟨by rfl, fun w' => by go_simp⟩) rfl ?_
     simp only [Act.put, List.setIfInBounds_toArray, List.set_cons_zero, List.set_cons_succ]
     refine pu_ (i := 21) (N := some 69) (v := .bool true) (pl38 22) rfl rfl HT_ (by kernel_rfl) (fun _ _ _ h => h) (Or.inl ⟨by rfl, fun w' => by go_simp⟩) rfl ?_
     simp only [Act.put, List.setIfInBounds_toArray, List.set_cons_zero, List.set_cons_succ]
     refine pu_ (i := 22) (N := some 70) (v := .pointer (some ⟨b8, 4, none⟩)) (pl38 23) rfl rfl HT_ (by kernel_rfl) (fun _ _ _ h => h) (Or.inl ⟨by rfl, fun w' => by go_simp⟩) rfl ?_
     simp only [Act.put, List.setIfInBounds_toArray, List.set_cons_zero, List.set_cons_succ]
     refine take_ (i := 23) (N := some 71) (v := .slice (some ad) 1 e8) (pl38 24) rfl rfl (take_ofW HT_.out HW_.out (by kernel_rfl)) (fun _ _ _ h => h) (Or.inl ⟨by rfl, fun w' hS => by obtain ⟨_, _, hs4, _⟩ := hS; go_simp⟩) hHeld rfl ?_
     simp only [Act.put, List.setIfInBounds_toArray, List.set_cons_zero, List.set_cons_succ]
     refine pu_ (i := 24) (N := some 72) (v := .int .i64 1) (pl38 25) rfl rfl HT_ (by kernel_rfl) (fun _ _ _ h => h) (Or.inl ⟨by rfl, fun w' => by go_simp⟩) rfl ?_
     simp only [Act.put, List.setIfInBounds_toArray, List.set_cons_zero, List.set_cons_succ]
     refine pu_ (i := 25) (N := some 73) (v := .bool true) (pl38 26) rfl rfl HT_ (by kernel_rfl) (fun _ _ _ h => h) (Or.inl ⟨by rfl, fun w' => by go_simp⟩) rfl ?_
     simp only [Act.put, List.setIfInBounds_toArray, List.set_cons_zero, List.set_cons_succ]
     refine pu_ (i := 26) (N := some 74) (v := .bool true) (pl38 27) rfl rfl HT_ (by kernel_rfl) (fun _ _ _ h => h) (Or.inl ⟨by rfl, fun w' => by go_simp⟩) rfl ?_
     simp only [Act.put, List.setIfInBounds_toArray, List.set_cons_zero, List.set_cons_succ]
     refine pu_ (i := 27) (N := some 75) (v := .bool true) (pl38 28) rfl rfl HT_ (by kernel_rfl) (fun _ _ _ h => h) (Or.inl ⟨by rfl, fun w' => by go_simp⟩) rfl ?_
     simp only [Act.put, List.setIfInBounds_toArray, List.set_cons_zero, List.set_cons_succ]
     refine pu_ (i := 28) (N := some 76) (v := .pointer (some ⟨b8, 4, none⟩)) (pl38 29) rfl rfl HT_ (by kernel_rfl) (fun _ _ _ h => h) (Or.inl ⟨by rfl, fun w' => by go_simp⟩) rfl ?_
     simp only [Act.put, List.setIfInBounds_toArray, List.set_cons_zero, List.set_cons_succ]
     refine take_ (i := 29) (N := some 77) (v := .slice (some ad) 1 e8) (pl38 30) rfl rfl (take_ofW HT_.out HW_.out (by kernel_rfl)) (fun _ _ _ h => h) (Or.inl ⟨by rfl, fun w' hS => by obtain ⟨_, _, hs4, _⟩ := hS; go_simp⟩) hHeld rfl ?_
     simp only [Act.put, List.setIfInBounds_toArray, List.set_cons_zero, List.set_cons_succ]
     refine pu_ (i := 30) (N := some 78) (v := .pointer (some ad)) (pl38 31) rfl rfl HT_ (by kernel_rfl) (fun _ _ _ h => h) (Or.inl ⟨by rfl, fun w' => by go_simp⟩) rfl ?_
     simp only [Act.put, List.setIfInBounds_toArray, List.set_cons_zero, List.set_cons_succ]
     refine take_ (i := 31) (N := some 79) (v := .agg #[.int .i64 t.kind, .string (M t.sp), .string (M t.nm), .slice A3 t.attrs.length c3, .slice B3 t.kids.length e3, .string (M t.data)]) (pl38 32) rfl rfl (take_ofW HT_.out HW_.out (by kernel_rfl)) (fun _ _ _ h => h) (Or.inl ⟨by rfl, fun w' hS => by obtain ⟨_, _, _, hs0, hs1, hs2, hs3, hs4, hs5, _⟩ := hS; go_simp⟩) hHeld rfl ?_
     simp only [Act.put, List.setIfInBounds_toArray, List.set_cons_zero, List.set_cons_succ]
     refine take_ (i := 32) (N := some 80) (v := .agg #[.int .i64 t.kind, .string (M t.sp), .string (M t.nm), .slice A t.attrs.length c, .slice Bk t.kids.length e, .string (M t.data)]) (pl38 33) rfl rfl (take_ofW HT_.out HW_.out (by kernel_rfl)) (fun _ _ _ h => h) (Or.inl ⟨by rfl, fun w' hS => by obtain ⟨_, ⟨hs0, hs1, hs2, hs3, hs4, hs5, _⟩, _⟩ := hS; go_simp⟩) hHeld rfl ?_
     simp only [Act.put, List.setIfInBounds_toArray, List.set_cons_zero, List.set_cons_succ]
     refine one_ (i := 33) (N := some 81) (pl38 34) rfl rfl (one_of HT_.out (by kernel_rfl)) (by decide) (fun K hK => ?_)
     refine goes_ Tryz.func10 (by kernel_rfl) rfl #[.agg #[.int .i64 t.kind, .string (M t.sp), .string (M t.nm), .slice A3 t.attrs.length c3, .slice B3 t.kids.length e3, .string (M t.data)], .agg #[.int .i64 t.kind, .string (M t.sp), .string (M t.nm), .slice A t.attrs.length c, .slice Bk t.kids.length e, .string (M t.data)]] (by rfl) rfl rfl (by simp only [List.map_toArray, List.map_cons, List.map_nil]; rfl) ?_
     refine (same_calls KX.out.1.big KX.out.2.kk KX.out.1.kn).mono ?_
     rintro e V33 ⟨rfl, hq⟩
     have KX := Lib.hid (And.intro (KX.out.1.step hq) (KX.out.2.step hq))
     refine ⟨_, rfl, ?_⟩
     refine hK.out _ _ ⟨heldA KX.out.1, heldN KX.out.1, heldB KX.out.2, heldK KX.out.2⟩ (fun hHeld => ?_)
     clear hK K hq
     simp only [Act.put, List.setIfInBounds_toArray, List.set_cons_zero, List.set_cons_succ]
     refine pu_ (i := 34) (N := some 82) (v := .bool true) (pl38 35) rfl rfl HT_ (by kernel_rfl) (fun _ _ _ h => h) (Or.inl ⟨by rfl, fun w' => by go_simp⟩) rfl ?_
     simp only [Act.put, List.setIfInBounds_toArray, List.set_cons_zero, List.set_cons_succ]
     refine pu_ (i := 35) (N := some 83) (v := .bool true) (pl38 36) rfl rfl HT_ (by kernel_rfl) (fun _ _ _ h => h) (Or.inl ⟨by rfl, fun w' => by go_simp⟩) rfl ?_
     simp only [Act.put, List.setIfInBounds_toArray, List.set_cons_zero, List.set_cons_succ]
     refine pu_ (i := 36) (N := some 84) (v := .bool true) (pl38 37) rfl rfl HT_ (by kernel_rfl) (fun _ _ _ h => h) (Or.inl ⟨by rfl, fun w' => by go_simp⟩) rfl ?_
     simp only [Act.put, List.setIfInBounds_toArray, List.set_cons_zero, List.set_cons_succ]
     refine pu_ (i := 37) (N := some 2) (v := .bool true) (pl38 38) rfl rfl HT_ (by kernel_rfl) (fun _ _ _ h => h) (Or.inl ⟨by rfl, fun w' => by go_simp⟩) rfl ?_
     simp only [Act.put, List.setIfInBounds_toArray, List.set_cons_zero, List.set_cons_succ]
     refine done_ (done_of HT_.out (by kernel_rfl)) ?_
     go_wp2
     go_ret
     exact ⟨rfl, KX.out.1.below⟩
    ·have hstk := HZX.out.2.2 (by simpa using h2)
     refine (gparse_long (pX ++ (sl ++ qX)) (tkX t) W5 KX4.out.glob (by have := HZX.out.1.len; have := HMD.out.2; omega) HZX.out.1.check HZX.out.1.lines HZX.out.2.1 (.inl decl_ok) (by have := HZ.out.2.1; have := HMD.out.2; unfold tkX; simp; omega) hstk).mono ?_
     rintro x W6 ⟨rfl, h6⟩
     have KX0 := Lib.hid ((KX4.out.step h6).step ((Below.refl W6.heap.size W6).alloc (Nat.le_refl _) (.cells #[.int .i64 0, .string ⟨#[]⟩, .string ⟨#[]⟩, .slice none 0 0, .slice none 0 0, .string ⟨#[]⟩] 25)))
     clear hstk h6 KX4
     go_upto_region 11 with (fail)
     generalize W6.heap.size = b8 at *
     generalize W6.alloc (.cells _ 25) = W7 at *
     have KX := Lib.hid (KX0.out.step (Below.refl _ _).drew)
     refine start_ (n := 38) (S := fun w' => (w'.cell? ⟨b6, 0, none⟩ = some (.int .i64 t.kind) ∧ w'.cell? ⟨b6, 1, none⟩ = some (.string (M t.sp)) ∧ w'.cell? ⟨b6, 2, none⟩ = some (.string (M t.nm)) ∧ w'.cell? ⟨b6, 3, none⟩ = some (.slice A1 t.attrs.length c1) ∧ w'.cell? ⟨b6, 4, none⟩ = some (.slice B1 t.kids.length e1) ∧ w'.cell? ⟨b6, 5, none⟩ = some (.string (M t.data)) ∧ True) ∧ (w'.cell? ⟨w.heap.size, 0, none⟩ = some (.int .i64 t.kind) ∧ w'.cell? ⟨w.heap.size, 1, none⟩ = some (.string (M t.sp)) ∧ w'.cell? ⟨w.heap.size, 2, none⟩ = some (.string (M t.nm)) ∧ w'.cell? ⟨w.heap.size, 3, none⟩ = some (.slice A t.attrs.length c) ∧ w'.cell? ⟨w.heap.size, 4, none⟩ = some (.slice Bk t.kids.length e) ∧ w'.cell? ⟨w.heap.size, 5, none⟩ = some (.string (M t.data)) ∧ True)) (ds := []) (pl38 0) (by kernel_rfl) rfl rfl ⟨heldA KX.out, heldN KX.out⟩ (fun hHeld => ?_)
     refine with_tabW trees_tab trees_bits (fun HT_ HW_ => ?_)
     clear KX0
     generalize World.drew _ = v0 at KX hHeld ⊢
     refine pu_ (i := 0) (N := some 48) (v := .bool true) (pl38 1) rfl rfl HT_ (by kernel_rfl) (fun _ _ _ h => h) (Or.inl ⟨by rfl, fun w' => by go_simp⟩) rfl ?_
     simp only [Act.put, List.setIfInBounds_toArray, List.set_cons_zero, List.set_cons_succ]
     refine pu_ (i := 1) (N := some 49) (v := .bool true) (pl38 2) rfl rfl HT_ (by kernel_rfl) (fun _ _ _ h => h) (Or.inl ⟨by rfl, fun w' => by go_simp⟩) rfl ?_
     simp only [Act.put, List.setIfInBounds_toArray, List.set_cons_zero, List.set_cons_succ]
     refine pu_ (i := 2) (N := some 50) (v := .string (M sl)) (pl38 3) rfl rfl HT_ (by kernel_rfl) (fun _ _ _ h => h) (Or.inl ⟨by rfl, fun w' => by go_simp⟩) rfl ?_
     simp only [Act.put, List.setIfInBounds_toArray, List.set_cons_zero, List.set_cons_succ]
     refine one_ (i := 3) (N := some 51) (pl38 4) rfl rfl (one_of HT_.out (by kernel_rfl)) (by decide) (fun K hK => ?_)
     refine goes_ Tryz.func9 (by kernel_rfl) rfl #[.string (M sl)] (by rfl) rfl rfl (by simp only [List.map_toArray, List.map_cons, List.map_nil]; rfl) ?_
     refine (check0 KX.out).mono ?_
     rintro e V3 ⟨rfl, hq⟩
     have KX := Lib.hid (KX.out.step hq)
     refine ⟨_, rfl, ?_⟩
     refine hK.out _ _ ⟨heldA KX.out, heldN KX.out⟩ (fun hHeld => ?_)
     clear hK K hq
     simp only [Act.put, List.setIfInBounds_toArray, List.set_cons_zero, List.set_cons_succ]
     refine pu_ (i := 4) (N := some 52) (v := .bool true) (pl38 5) rfl rfl HT_ (by kernel_rfl) (fun _ _ _ h => h) (Or.inl ⟨by rfl, fun w' => by go_simp⟩) rfl ?_
     simp only [Act.put, List.setIfInBounds_toArray, List.set_cons_zero, List.set_cons_succ]
     refine pu_ (i := 5) (N := some 53) (v := .bool true) (pl38 6) rfl rfl HT_ (by kernel_rfl) (fun _ _ _ h => h) (Or.inl ⟨by rfl, fun w' => by go_simp⟩) rfl ?_
     simp only [Act.put, List.setIfInBounds_toArray, List.set_cons_zero, List.set_cons_succ]
     refine pu_ (i := 6) (N := some 54) (v := .bool true) (pl38 7) rfl rfl HT_ (by kernel_rfl) (fun _ _ _ h => h) (Or.inl ⟨by rfl, fun w' => by go_simp⟩) rfl ?_
     simp only [Act.put, List.setIfInBounds_toArray, List.set_cons_zero, List.set_cons_succ]
     refine pu_ (i := 7) (N := some 55) (v := .int .i64 0) (pl38 8) rfl rfl HT_ (by kernel_rfl) (fun _ _ _ h => h) (Or.inl ⟨by rfl, fun w' => by go_simp⟩) rfl ?_
     simp only [Act.put, List.setIfInBounds_toArray, List.set_cons_zero, List.set_cons_succ]
     refine pu_ (i := 8) (N := some 56) (v := .bool true) (pl38 9) rfl rfl HT_ (by kernel_rfl) (fun _ _ _ h => h) (Or.inl ⟨by rfl, fun w' => by go_simp⟩) rfl ?_
     simp only [Act.put, List.setIfInBounds_toArray, List.set_cons_zero, List.set_cons_succ]
     refine pu_ (i := 9) (N := some 57) (v := .bool true) (pl38 10) rfl rfl HT_ (by kernel_rfl) (fun _ _ _ h => h) (Or.inl ⟨by rfl, fun w' => by go_simp⟩) rfl ?_
     simp only [Act.put, List.setIfInBounds_toArray, List.set_cons_zero, List.set_cons_succ]
     refine pu_ (i := 10) (N := some 58) (v := .bool true) (pl38 11) rfl rfl HT_ (by kernel_rfl) (fun _ _ _ h => h) (Or.inl ⟨by rfl, fun w' => by go_simp⟩) rfl ?_
     simp only [Act.put, List.setIfInBounds_toArray, List.set_cons_zero, List.set_cons_succ]
     refine take_ (i := 11) (N := some 59) (v := .agg #[.int .i64 t.kind, .string (M t.sp), .string (M t.nm), .slice A1 t.attrs.length c1, .slice B1 t.kids.length e1, .string (M t.data)]) (pl38 12) rfl rfl (take_ofW HT_.out HW_.out (by kernel_rfl)) (fun _ _ _ h => h) (Or.inl ⟨by rfl, fun w' hS => by obtain ⟨⟨hs0, hs1, hs2, hs3, hs4, hs5, _⟩, _⟩ := hS; go_simp⟩) hHeld rfl ?_
     simp only [Act.put, List.setIfInBounds_toArray, List.set_cons_zero, List.set_cons_succ]
     refine take_ (i := 12) (N := some 60) (v := .agg #[.int .i64 t.kind, .string (M t.sp), .string (M t.nm), .slice A t.attrs.length c, .slice Bk t.kids.length e, .string (M t.data)]) (pl38 13) rfl rfl (take_ofW HT_.out HW_.out (by kernel_rfl)) (fun _ _ _ h => h) (Or.inl ⟨by rfl, fun w' hS => by obtain ⟨_, ⟨hs0, hs1, hs2, hs3, hs4, hs5, _⟩⟩ := hS; go_simp⟩) hHeld rfl ?_
     simp only [Act.put, List.setIfInBounds_toArray, List.set_cons_zero, List.set_cons_succ]
     refine one_ (i := 13) (N := some 61) (pl38 14) rfl rfl (one_of HT_.out (by kernel_rfl)) (by decide) (fun K hK => ?_)
     refine goes_ Tryz.func10 (by kernel_rfl) rfl #[.agg #[.int .i64 t.kind, .string (M t.sp), .string (M t.nm), .slice A1 t.attrs.length c1, .slice B1 t.kids.length e1, .string (M t.data)], .agg #[.int .i64 t.kind, .string (M t.sp), .string (M t.nm), .slice A t.attrs.length c, .slice Bk t.kids.length e, .string (M t.data)]] (by rfl) rfl rfl (by simp only [List.map_toArray, List.map_cons, List.map_nil]; rfl) ?_
     refine (same_calls KX.out.big KX.out.ka KX.out.kn).mono ?_
     rintro e V13 ⟨rfl, hq⟩
     have KX := Lib.hid (KX.out.step hq)
     refine ⟨_, rfl, ?_⟩
     refine hK.out _ _ ⟨heldA KX.out, heldN KX.out⟩ (fun hHeld => ?_)
     clear hK K hq
     simp only [Act.put, List.setIfInBounds_toArray, List.set_cons_zero, List.set_cons_succ]
     refine pu_ (i := 14) (N := some 62) (v := .bool true) (pl38 15) rfl rfl HT_ (by kernel_rfl) (fun _ _ _ h => h) (Or.inl ⟨by rfl, fun w' => by go_simp⟩) rfl ?_
     simp only [Act.put, List.setIfInBounds_toArray, List.set_cons_zero, List.set_cons_succ]
     refine pu_ (i := 15) (N := some 63) (v := .bool true) (pl38 16) rfl rfl HT_ (by kernel_rfl) (fun _ _ _ h => h) (Or.inl ⟨by rfl, fun w' => by go_simp⟩) rfl ?_
     simp only [Act.put, List.setIfInBounds_toArray, List.set_cons_zero, List.set_cons_succ]
     refine pu_ (i := 16) (N := some 64) (v := .int .i64 2) (pl38 17) rfl rfl HT_ (by kernel_rfl) (fun _ _ _ h => h) (Or.inl ⟨by rfl, fun w' => by go_simp⟩) rfl ?_
     simp only [Act.put, List.setIfInBounds_toArray, List.set_cons_zero, List.set_cons_succ]
     refine pu_ (i := 17) (N := some 65) (v := .bool true) (pl38 18) rfl rfl HT_ (by kernel_rfl) (fun _ _ _ h => h) (Or.inl ⟨by rfl, fun w' => by go_simp⟩) rfl ?_
     simp only [Act.put, List.setIfInBounds_toArray, List.set_cons_zero, List.set_cons_succ]
     refine pu_ (i := 18) (N := some 66) (v := .bool true) (pl38 19) rfl rfl HT_ (by kernel_rfl) (fun _ _ _ h => h) (Or.inl ⟨by rfl, fun w' => by go_simp⟩) rfl ?_
     simp only [Act.put, List.setIfInBounds_toArray, List.set_cons_zero, List.set_cons_succ]
     refine pu_ (i := 19) (N := some 67) (v := undef) (pl38 20) rfl rfl HT_ (by kernel_rfl) (fun _ _ _ h => h) (Or.inr ⟨by rfl, rfl⟩) rfl ?_
     simp only [Act.put, List.setIfInBounds_toArray, List.set_cons_zero, List.set_cons_succ]
     refine pu_ (i := 20) (N := some 68) (v := undef) (pl38 21) rfl rfl HT_ (by kernel_rfl) (fun _ _ _ h => h) (Or.inr ⟨by rfl, rfl⟩) rfl ?_
     simp only [Act.put, List.setIfInBounds_toArray, List.set_cons_zero, List.set_cons_succ]
     refine pu_ (i := 21) (N := some 69) (v := undef) (pl38 22) rfl rfl HT_ (by kernel_rfl) (fun _ _ _ h => h) (Or.inr ⟨by rfl, rfl⟩) rfl ?_
     simp only [Act.put, List.setIfInBounds_toArray, List.set_cons_zero, List.set_cons_succ]
     refine pu_ (i := 22) (N := some 70) (v := undef) (pl38 23) rfl rfl HT_ (by kernel_rfl) (fun _ _ _ h => h) (Or.inr ⟨by rfl, rfl⟩) rfl ?_
     simp only [Act.put, List.setIfInBounds_toArray, List.set_cons_zero, List.set_cons_succ]
     refine pu_ (i := 23) (N := some 71) (v := undef) (pl38 24) rfl rfl HT_ (by kernel_rfl) (fun _ _ _ h => h) (Or.inr ⟨by rfl, rfl⟩) rfl ?_
     simp only [Act.put, List.setIfInBounds_toArray, List.set_cons_zero, List.set_cons_succ]
     refine pu_ (i := 24) (N := some 72) (v := undef) (pl38 25) rfl rfl HT_ (by kernel_rfl) (fun _ _ _ h => h) (Or.inr ⟨by rfl, rfl⟩) rfl ?_
     simp only [Act.put, List.setIfInBounds_toArray, List.set_cons_zero, List.set_cons_succ]
     refine pu_ (i := 25) (N := some 73) (v := undef) (pl38 26) rfl rfl HT_ (by kernel_rfl) (fun _ _ _ h => h) (Or.inr ⟨by rfl, rfl⟩) rfl ?_
     simp only [Act.put, List.setIfInBounds_toArray, List.set_cons_zero, List.set_cons_succ]
     refine pu_ (i := 26) (N := some 74) (v := undef) (pl38 27) rfl rfl HT_ (by kernel_rfl) (fun _ _ _ h => h) (Or.inr ⟨by rfl, rfl⟩) rfl ?_
     simp only [Act.put, List.setIfInBounds_toArray, List.set_cons_zero, List.set_cons_succ]
     refine pu_ (i := 27) (N := some 75) (v := undef) (pl38 28) rfl rfl HT_ (by kernel_rfl) (fun _ _ _ h => h) (Or.inr ⟨by rfl, rfl⟩) rfl ?_
     simp only [Act.put, List.setIfInBounds_toArray, List.set_cons_zero, List.set_cons_succ]
     refine pu_ (i := 28) (N := some 76) (v := undef) (pl38 29) rfl rfl HT_ (by kernel_rfl) (fun _ _ _ h => h) (Or.inr ⟨by rfl, rfl⟩) rfl ?_
     simp only [Act.put, List.setIfInBounds_toArray, List.set_cons_zero, List.set_cons_succ]
     refine pu_ (i := 29) (N := some 77) (v := undef) (pl38 30) rfl rfl HT_ (by kernel_rfl) (fun _ _ _ h => h) (Or.inr ⟨by rfl, rfl⟩) rfl ?_
     simp only [Act.put, List.setIfInBounds_toArray, List.set_cons_zero, List.set_cons_succ]
     refine pu_ (i := 30) (N := some 78) (v := undef) (pl38 31) rfl rfl HT_ (by kernel_rfl) (fun _ _ _ h => h) (Or.inr ⟨by rfl, rfl⟩) rfl ?_
     simp only [Act.put, List.setIfInBounds_toArray, List.set_cons_zero, List.set_cons_succ]
     refine pu_ (i := 31) (N := some 79) (v := undef) (pl38 32) rfl rfl HT_ (by kernel_rfl) (fun _ _ _ h => h) (Or.inr ⟨by rfl, rfl⟩) rfl ?_
     simp only [Act.put, List.setIfInBounds_toArray, List.set_cons_zero, List.set_cons_succ]
     refine pu_ (i := 32) (N := some 80) (v := undef) (pl38 33) rfl rfl HT_ (by kernel_rfl) (fun _ _ _ h => h) (Or.inr ⟨by rfl, rfl⟩) rfl ?_
     simp only [Act.put, List.setIfInBounds_toArray, List.set_cons_zero, List.set_cons_succ]
     refine pu_ (i := 33) (N := some 81) (v := undef) (pl38 34) rfl rfl HT_ (by kernel_rfl) (fun _ _ _ h => h) (Or.inr ⟨by rfl, rfl⟩) rfl ?_
     simp only [Act.put, List.setIfInBounds_toArray, List.set_cons_zero, List.set_cons_succ]
     refine pu_ (i := 34) (N := some 82) (v := undef) (pl38 35) rfl rfl HT_ (by kernel_rfl) (fun _ _ _ h => h) (Or.inr ⟨by rfl, rfl⟩) rfl ?_
     simp only [Act.put, List.setIfInBounds_toArray, List.set_cons_zero, List.set_cons_succ]
     refine pu_ (i := 35) (N := some 83) (v := .bool true) (pl38 36) rfl rfl HT_ (by kernel_rfl) (fun _ _ _ h => h) (Or.inl ⟨by rfl, fun w' => by go_simp⟩) rfl ?_
     simp only [Act.put, List.setIfInBounds_toArray, List.set_cons_zero, List.set_cons_succ]
     refine pu_ (i := 36) (N := some 84) (v := .bool true) (pl38 37) rfl rfl HT_ (by kernel_rfl) (fun _ _ _ h => h) (Or.inl ⟨by rfl, fun w' => by go_simp⟩) rfl ?_
     simp only [Act.put, List.setIfInBounds_toArray, List.set_cons_zero, List.set_cons_succ]
     refine pu_ (i := 37) (N := some 2) (v := .bool true) (pl38 38) rfl rfl HT_ (by kernel_rfl) (fun _ _ _ h => h) (Or.inl ⟨by rfl, fun w' => by go_simp⟩) rfl ?_
     simp only [Act.put, List.setIfInBounds_toArray, List.set_cons_zero, List.set_cons_succ]
     refine done_ (done_of HT_.out (by kernel_rfl)) ?_
     go_wp2
     go_ret
     exact ⟨rfl, KX.out.below⟩
 ·have hr3 : (3000 : Int) < r := HR.out.more (by omega)
  clear hb2 hx2
  go_wp2
  go_ret
  exact ⟨rfl, HB2.out.1⟩
end Go.Proofs.YtadgeghipimfiaaGreatDoor.X
end
section
namespace Go.Proofs.YtadgeghipimfiaaGreatDoor.topTrees
open Go.ChangeShapes Go.WideShapes Go.ChangeAt Go.RowKit
set_option linter.unusedVariables false
theorem own : ownKnob Tryz.prog.godebug = none := by kernel_rfl
theorem laidOut : laidOutB Tryz.prog = true := by kernel_rfl
set_option maxRecDepth 100000 in
theorem lifted (os : Os) (started : os.Started) (H : Type) (enc : TypeId × Value → H) :
  ReturnsInHanded {} Tryz.checked os 3 .any (fun w args => (Rows.topTreesSpec.pre enc Tryz.prog Tryz.f3 Rows.topTreesRow.domain false w args ∧ laidMetH Tryz.prog Rows.topTreesRow.laid w) ∧ sizedMet enc Tryz.prog Tryz.f3 (OpenSpec.ofChange Rows.topTreesSpec) false w args) (Rows.topTreesSpec.post enc Tryz.prog Tryz.f3 false true false false) := by
 refine RowKit2.handed (C := Tryz.checked) (laid := Rows.topTreesRow.laid) own started (by kernel_rfl) Tryz.func3
  (ChangeSpec.witness_shaped (enc := enc) (C := Tryz.checked) (os := os) (X := fun w _ => laidMetH Tryz.prog Rows.topTreesRow.laid w) false (World.laidAll Tryz.prog os Rows.topTreesRow.laid) #[.agg #[.int .i64 0, .string ByteArray.empty, .string ByteArray.empty, .slice none 0 0, .slice none 0 0, .string ByteArray.empty]] 8 (World.laidAll_os _ _ _)
    (World.shaped_of_ZipB (by kernel_rfl) (by kernel_rfl)) (by kernel_rfl) (by kernel_rfl) (by kernel_rfl)
    (by rw [MakeChecks.laidMetH_plain _ _ _ (by kernel_rfl)]; exact laidMet_laidAll _ (by kernel_rfl) (by kernel_rfl))) ?_
 intro W base args ds gs before hval0 hW hcnd hsz0 hL hsh _
 have hG := RowKit2.glob hL hsh
 have hsz : (DataW.weightsEach Tryz.prog (Tryz.f3.params.toList ++ Rows.topTreesSpec.plain.varTypes Tryz.prog) (ds ++ gs)).all (· ≤ reachBytes) = true := hsz0
 have hval : ∀ (j : Nat) t v, Tryz.f3.params[j]? = some t → args[j]? = some v → Value.okWide Tryz.prog W .any base t v := hval0
 have hW' := hW
 obtain ⟨p, q, hA0, hV, rfl, hfz, hnd⟩ := hW
 have hA : DataW.TrodAll enc Tryz.prog W 0 (fun _ => true) true Tryz.f3.params.toList args.toList ds p := hA0
 rw [Tryz.params3] at hA hval hsz
 obtain ⟨v0, vs0, d0, ds0, p0, q0, hargs, rfl, rfl, h0, r0⟩ := trodAll_cons hA
 obtain ⟨rfl, rfl, rfl⟩ := trodAll_nil r0
 obtain rfl : args = #[v0] := by cases args; simp_all
 obtain ⟨rfl, rfl⟩ := trodVars_none hV
 have k0 := h0
 have lt0 : ∀ x ∈ p0, x.block < W.heap.size := by obtain ⟨m, hm⟩ := k0; exact DataW.trod_lt m _ _ _ hm
 obtain ⟨t, cs, rfl, hK, hB⟩ := RowTree.one25 (hval 0 25 v0 rfl rfl) h0 (fun n hn => by have z := List.all_eq_true.1 hsz _ (DataW.weights_mem_each (j := 0) (t := 25) rfl rfl n hn); simpa using z)
 clear hA0 hval0 hsz0 hsz
 refine (X.trees_calls hG hK hB).mono fun e W' ⟨he, bel⟩ => ?_
 subst he
 exact ⟨_, rfl, _, _, _, [], _, [], hW', trodAll_mk1 (shut_bool Tryz.underlying4 _), (trodAll_cons_mk (Below.trod laidOut (by kernel_rfl) (of_decide_eq_true (by kernel_rfl)) k0 bel lt0) trodAll_mk0), rfl, bel.frame _, fun h => by cases h⟩
theorem over : Rows.topTreesRow.holds Tryz.pinned (OpenSpec.ofChange Rows.topTreesSpec) :=
 OpenClaim.holds_of_wide 3 Tryz.f3 rfl rfl rfl rfl rfl rfl rfl ⟨rfl, rfl, rfl, rfl, rfl⟩ rfl rfl rfl rfl rfl (by kernel_rfl) Tryz.func3 (by kernel_rfl)
  (of_decide_eq_true (by kernel_rfl)) (by unfold Func.isWrapper; first | (rw [if_pos (by decide +kernel)]; kernel_rfl) | (rw [if_neg (by decide +kernel)]; exact ⟨rfl, rfl⟩))
  (fun os started H enc _ => lifted os started H enc)
theorem proved : Rows.TopTreesSaid := over
theorem plain (f : FuncId) (fn : Func) (hf : Tryz.pinned.checked.prog.funcNamed "broadsheet/broadsheettop.TopTrees" = some f) (hfn : Tryz.pinned.checked.prog.funcs[f]? = some fn) :
  true = Tryz.pinned.checked.prog.looks [] ∧ ∀ (j : Nat) t, fn.params[j]? = some t → Tryz.pinned.checked.prog.wantsStandIn t = false := by
 obtain rfl : f = 3 := Option.some.inj ((show Tryz.prog.funcNamed "broadsheet/broadsheettop.TopTrees" = some 3 by kernel_rfl).symm.trans hf) |>.symm
 obtain rfl : fn = Tryz.f3 := (Option.some.inj (Tryz.func3.symm.trans hfn)).symm
 refine ⟨by kernel_rfl, fun j t ht => ?_⟩
 rw [Tryz.params3] at ht
 have hm : t ∈ [25] := by simpa using Array.mem_of_getElem? ht
 have hall : ([25].all fun u => !Tryz.prog.wantsStandIn u) = true := by kernel_rfl
 exact (show Tryz.prog.wantsStandIn t = false by simpa using List.all_eq_true.1 hall t hm)
theorem card : Rows.TopTreesCardSaid :=
 Claim7.holds_tied_plain_at .later [] _ _ _ _ proved (fun _ h => by cases h) (by kernel_rfl) (fun _ h => by cases h) topTrees_row_tie rfl ⟨rfl, rfl⟩ (by kernel_rfl) rfl plain (by kernel_rfl)
end Go.Proofs.YtadgeghipimfiaaGreatDoor.topTrees
namespace Go.Proofs.YtadgeghipimfiaaGreatDoor
theorem topTrees_card : Rows.TopTreesCardSaid := topTrees.card
end Go.Proofs.YtadgeghipimfiaaGreatDoor
end
