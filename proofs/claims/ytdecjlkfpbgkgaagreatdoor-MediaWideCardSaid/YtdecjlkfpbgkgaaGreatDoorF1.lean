/- Plain law of media types: what the reference's small functions come to: tokens, blanks, small letters. -/
import Derived.Test.YtdecjlkfpbgkgaaGreatDoorU0
import Derived.Test.YtdecjlkfpbgkgaaGreatDoorPm3
import Derived.Test.YtdecjlkfpbgkgaaGreatDoorPm4
namespace Go.Proofs.YtdecjlkfpbgkgaaGreatDoor.F
open Go.RowKit Go.Lib Go.Proofs.YtdecjlkfpbgkgaaGreatDoorW.PrintWords Go.Proofs.YtdecjlkfpbgkgaaGreatDoor.X Go.Proofs.YtdecjlkfpbgkgaaGreatDoor.Pm Go.Proofs.YtdecjlkfpbgkgaaGreatDoor.U
set_option linter.unusedSimpArgs false
theorem val_ne (c d : UInt8) (h : c ≠ d) : ¬ ((c.toNat : Nat) : Int) = ((d.toNat : Nat) : Int) := fun hh => h (UInt8.toNat_inj.1 (by omega))
theorem val_eq (c d : UInt8) (h : c = d) : ((c.toNat : Nat) : Int) = ((d.toNat : Nat) : Int) := by rw [h]
theorem bt_val (l : Bs) (i : Nat) (h : i < l.length) : bt (B l) (i : Int) = (l[i].toNat : Int) := B_bt l i h
theorem bt_head (c : UInt8) (t : Bs) : bt (B (c :: t)) 0 = (c.toNat : Int) := B_bt (c :: t) 0 (by simp)
theorem extract_tail (l : Bs) (n : Nat) : (B l).extract n (B l).size = B (l.drop n) := by rw [B_extract, B_size, List.take_length]
theorem extract_head (l : Bs) (n : Nat) : (B l).extract 0 n = B (l.take n) := by rw [B_extract, List.drop_zero]
theorem toList_nil (l : Bs) : ((B l).toList = ([] : List UInt8)) ↔ l = [] := by rw [B_toList]
theorem wstep (i : Nat) (h : i < 4611686018427387904) : wrap64 ((i : Int) + 1) = ((i + 1 : Nat) : Int) := by rw [w64 (by omega) (by omega)]; rfl
theorem rtokb (c : UInt8) : Ev (fun k => broadsheetref13_TokenByte.f k (c.toNat : Int)) (tokB c) := by
  have key : ∀ n : Nat, n < 256 → broadsheetref13_TokenByte.f 2 (n : Int) = some (tokB (UInt8.ofNat n)) := by decide +kernel
  have := key c.toNat c.toNat_lt
  rw [UInt8.ofNat_toNat] at this
  exact Ev.of (fun k => broadsheetref13_TokenByte.mono _ k) (k := 2) this
theorem tw_split (p : UInt8 → Bool) (l : Bs) (i : Nat) (hall : ∀ c ∈ l.take i, p c = true) : l.takeWhile p = l.take i ++ (l.drop i).takeWhile p ∧ l.dropWhile p = (l.drop i).dropWhile p := by
  have e : l = l.take i ++ l.drop i := (List.take_append_drop i l).symm
  constructor
  · conv => lhs; rw [e]
    rw [List.takeWhile_append_of_pos hall]
  · conv => lhs; rw [e]
    rw [List.dropWhile_append_of_pos hall]
theorem take_mem (l : Bs) (p : UInt8 → Bool) (i : Nat) (h : i < l.length) (hall : ∀ c ∈ l.take i, p c = true) (hc : p l[i] = true) : ∀ c ∈ l.take (i + 1), p c = true := by
  intro c hm
  rw [List.take_succ_eq_append_getElem h] at hm
  rcases List.mem_append.1 hm with hm | hm
  · exact hall c hm
  · rw [List.mem_singleton.1 hm]; exact hc
theorem rtoken_l0 (l : Bs) (hl : l.length < 4611686018427387904) : ∀ (d i : Nat), l.length - i ≤ d → i ≤ l.length → (∀ c ∈ l.take i, tokB c = true) → Ev (fun k => broadsheetref13_Token.l0 k (B l) (i : Int)) (B (l.takeWhile tokB), B (l.dropWhile tokB)) := by
  have fin : ∀ i, ¬ i < l.length → i ≤ l.length → (∀ c ∈ l.take i, tokB c = true) → Ev (fun k => broadsheetref13_Token.l0 k (B l) (i : Int)) (B (l.takeWhile tokB), B (l.dropWhile tokB)) := by
    intro i h h2 hall
    refine Ev.step (fun k => (show broadsheetref13_Token.l0 (k + 1) (B l) (i : Int) = _ from by rw [broadsheetref13_Token.l0])) ?_
    obtain ⟨e1, e2⟩ := tw_split tokB l i hall
    rw [e1, e2, List.drop_eq_nil_of_le (by omega)]
    refine Ev.ite_neg (by rw [B_size]; omega) (Ev.ite_pos (by omega) (Ev.ite_pos (by rw [B_size]; omega) ?_))
    rw [Int.toNat_natCast, extract_head, extract_tail, List.drop_eq_nil_of_le (by omega)]
    simpa using Ev.now _
  intro d
  induction d with
  | zero => intro i hd hi hall; exact fin i (by omega) hi hall
  | succ d ih =>
    intro i hd hi hall
    by_cases h : i < l.length
    · refine Ev.step (fun k => (show broadsheetref13_Token.l0 (k + 1) (B l) (i : Int) = _ from by rw [broadsheetref13_Token.l0])) ?_
      rw [bt_val l i h, wstep i (by omega)]
      refine Ev.ite_pos (by rw [B_size]; omega) (Ev.ite_pos (by omega) (Ev.bind (rtokb l[i]) ?_))
      cases ht : tokB l[i] with
      | true => exact Ev.ite_pos rfl (ih (i + 1) (by omega) (by omega) (take_mem l tokB i h hall ht))
      | false =>
        refine Ev.ite_neg (by decide) (Ev.ite_pos (by rw [B_size]; omega) ?_)
        obtain ⟨e1, e2⟩ := tw_split tokB l i hall
        obtain ⟨e3, e4⟩ := tw_drop tokB l i h
        rw [ht] at e3 e4
        rw [e1, e2, e3, e4, Int.toNat_natCast, extract_head, extract_tail]
        simpa using Ev.now _
    · exact fin i h hi hall
theorem rtoken_ev (l : Bs) (hl : l.length < 4611686018427387904) : Ev (fun k => broadsheetref13_Token.f k (B l)) (B (l.takeWhile tokB), B (l.dropWhile tokB)) :=
  rtoken_l0 l hl l.length 0 (by omega) (by omega) (by simp)
def blank (c : UInt8) : Bool := ([32, 9] : Bs).contains c
theorem blank_or (c : UInt8) : blank c = true ↔ c = 32 ∨ c = 9 := by simp [blank]
theorem rskip_ev : ∀ (l : Bs), l.length < 4611686018427387904 → Ev (fun k => broadsheetref13_Skip.f k (B l)) (B (l.dropWhile blank)) := by
  intro l
  induction l with
  | nil =>
    intro _
    refine Ev.step (fun k => (show broadsheetref13_Skip.l0 (k + 1) (B []) = _ from by rw [broadsheetref13_Skip.l0])) ?_
    exact Ev.now _
  | cons c t ih =>
    intro hl
    have hl2 : t.length < 4611686018427387904 := by rw [List.length_cons] at hl; omega
    refine Ev.step (fun k => (show broadsheetref13_Skip.l0 (k + 1) (B (c :: t)) = _ from by rw [broadsheetref13_Skip.l0])) ?_
    have hs : ((B (c :: t)).size : Int) = (t.length : Int) + 1 := by rw [B_size]; simp
    rw [bt_head, extract_tail, List.drop_one, List.tail_cons, List.dropWhile_cons]
    refine Ev.ite_pos (by omega) (Ev.ite_pos (by omega) ?_)
    by_cases h1 : c = 32
    · rw [if_pos ((blank_or c).2 (.inl h1))]
      exact Ev.ite_pos (val_eq c 32 h1) (Ev.ite_pos (by omega) (ih hl2))
    · refine Ev.ite_neg (val_ne c 32 h1) ?_
      by_cases h2 : c = 9
      · rw [if_pos ((blank_or c).2 (.inr h2))]
        exact Ev.ite_pos (val_eq c 9 h2) (Ev.ite_pos (by omega) (ih hl2))
      · rw [if_neg (fun h => ((blank_or c).1 h).elim h1 h2)]
        exact Ev.ite_neg (val_ne c 9 h2) (Ev.now _)
def numsB (l : Bs) : List Int := l.map fun b => (b.toNat : Int)
theorem numsB_str (l : Bs) : strOfNums (numsB l) = B l := by
  unfold strOfNums numsB B
  rw [List.map_map]
  congr 1
  have : ((fun n : Int => n.toNat.toUInt8) ∘ fun b : UInt8 => (b.toNat : Int)) = id := by
    funext b
    simp
  first
  | (rw [this, List.map_id]; rfl)
  | (rw [this, List.map_id])
  | simp
theorem low_num : ∀ n : Nat, n < 256 → ((lowC (UInt8.ofNat n)).toNat : Int) = if (n : Int) ≥ 65 ∧ (n : Int) ≤ 90 then ((n : Int) + 32) % 256 else n := by decide +kernel
theorem low_val (c : UInt8) : ((lowC c).toNat : Int) = if (c.toNat : Int) ≥ 65 ∧ (c.toNat : Int) ≤ 90 then ((c.toNat : Int) + 32) % 256 else c.toNat := by
  have := low_num c.toNat c.toNat_lt
  rwa [UInt8.ofNat_toNat] at this
theorem rlower_l0 (l : Bs) (hl : l.length < 140737488355328) : ∀ (d i : Nat), l.length - i ≤ d → i ≤ l.length → Ev (fun k => broadsheetref07_Lower.l0 k (B l) (numsB (small (l.take i))) (i : Int)) (B (small l)) := by
  have fin : ∀ i, ¬ i < l.length → Ev (fun k => broadsheetref07_Lower.l0 k (B l) (numsB (small (l.take i))) (i : Int)) (B (small l)) := by
    intro i h
    refine Ev.step (fun k => (show broadsheetref07_Lower.l0 (k + 1) (B l) (numsB (small (l.take i))) (i : Int) = _ from by rw [broadsheetref07_Lower.l0])) ?_
    refine Ev.ite_neg (by rw [B_size]; omega) ?_
    rw [List.take_of_length_le (by omega), numsB_str]
    exact Ev.now _
  intro d
  induction d with
  | zero => intro i hd hi; exact fin i (by omega)
  | succ d ih =>
    intro i hd hi
    by_cases h : i < l.length
    · refine Ev.step (fun k => (show broadsheetref07_Lower.l0 (k + 1) (B l) (numsB (small (l.take i))) (i : Int) = _ from by rw [broadsheetref07_Lower.l0])) ?_
      rw [bt_val l i h, wstep i (by omega)]
      have hn : (numsB (small (l.take i))).length < 140737488355328 := by
        unfold numsB small
        rw [List.length_map, List.length_map, List.length_take]
        omega
      have hs : numsB (small (l.take (i + 1))) = numsB (small (l.take i)) ++ [((lowC l[i]).toNat : Int)] := by
        rw [List.take_succ_eq_append_getElem h]
        unfold numsB small
        rw [List.map_append, List.map_append]
        rfl
      have next := ih (i + 1) (by omega) (by omega)
      rw [hs, low_val] at next
      refine Ev.ite_pos (by rw [B_size]; omega) (Ev.ite_pos (by omega) ?_)
      by_cases h1 : (l[i].toNat : Int) ≥ 65
      · refine Ev.ite_pos h1 ?_
        by_cases h2 : (l[i].toNat : Int) ≤ 90
        · rw [if_pos ⟨h1, h2⟩] at next
          exact Ev.ite_pos h2 (Ev.ite_pos hn next)
        · rw [if_neg (fun h => h2 h.2)] at next
          exact Ev.ite_neg h2 (Ev.ite_pos hn next)
      · rw [if_neg (fun h => h1 h.1)] at next
        exact Ev.ite_neg h1 (Ev.ite_pos hn next)
    · exact fin i h
theorem rlower_ev (l : Bs) (hl : l.length < 140737488355328) : Ev (fun k => broadsheetref07_Lower.f k (B l)) (B (small l)) :=
  rlower_l0 l hl l.length 0 (by omega) (by omega)
theorem dw_len (p : UInt8 → Bool) (l : Bs) : (l.dropWhile p).length ≤ l.length := (List.dropWhile_suffix p).length_le
theorem tw_len (p : UInt8 → Bool) (l : Bs) : (l.takeWhile p).length ≤ l.length := (List.takeWhile_prefix p).length_le
theorem same38_l0 (l : List S38) (hl : l.length ≤ 4611686018427387904) : ∀ (d i : Nat), l.length - i ≤ d → i ≤ l.length → Ev (fun k => broadsheetref07_SamePairs.l0 k l l (i : Int)) true := by
  have fin : ∀ (i : Nat), ¬ i < l.length → Ev (fun k => broadsheetref07_SamePairs.l0 k l l (i : Int)) true := by
    intro i h
    refine Ev.step (fun k => (show broadsheetref07_SamePairs.l0 (k + 1) l l i = _ from by rw [broadsheetref07_SamePairs.l0])) ?_
    exact Ev.ite_neg (by omega) (Ev.now _)
  intro d
  induction d with
  | zero => intro i hd hi; exact fin i (by omega)
  | succ d ih =>
    intro i hd hi
    by_cases h : i < l.length
    · refine Ev.step (fun k => (show broadsheetref07_SamePairs.l0 (k + 1) l l i = _ from by rw [broadsheetref07_SamePairs.l0])) ?_
      simp only [if_pos (show (i : Int) < (l.length : Int) by omega), if_pos (show (0 : Int) ≤ (i : Int) by omega), beq_self_eq_true, Bool.not_true, Bool.or_self, Bool.false_eq_true, if_false, w64 (x := (i : Int) + 1) (by omega) (by omega)]
      exact ih (i + 1) (by omega) (by omega)
    · exact fin i h
theorem same38_ev (l : List S38) (hl : l.length ≤ 4611686018427387904) : Ev (fun k => broadsheetref07_SamePairs.f k l l) true :=
  Ev.ite_pos rfl (same38_l0 l hl l.length 0 (by omega) (by omega))
end Go.Proofs.YtdecjlkfpbgkgaaGreatDoor.F
