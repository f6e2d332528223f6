/- Plain law of media types: what the reference's small functions come to: tokens, blanks, small letters. Plain law of media types: the reference's Quoted, value, Params and Parse are the program's; pairs that are the same; Param and Fits; 'awake'. -/
import Derived.Test.YtdecjlkfpbgkgaaGreatDoorXBase
import Derived.Test.YtdecjlkfpbgkgaaGreatDoorPm3
import Derived.Test.YtdecjlkfpbgkgaaGreatDoorPm4
namespace Go.Proofs.YtdecjlkfpbgkgaaGreatDoor.F
open Go.RowKit Go.Lib Go.Proofs.YtdecjlkfpbgkgaaGreatDoorW.PrintWords Go.Proofs.YtdecjlkfpbgkgaaGreatDoor.X Go.Proofs.YtdecjlkfpbgkgaaGreatDoor.Pm Go.Proofs.YtdecjlkfpbgkgaaGreatDoor.U
set_option linter.unusedSimpArgs false
theorem val_ne (c d : UInt8) (h : c ≠ d) : ¬ ((c.toNat : Nat) : Int) = ((d.toNat : Nat) : Int) := fun hh => h (UInt8.toNat_inj.1 (by omega))
theorem val_eq (c d : UInt8) (h : c = d) : ((c.toNat : Nat) : Int) = ((d.toNat : Nat) : Int) := by rw [h]
theorem bt_val (l : Bs) (i : Nat) (h : i < l.length) : bt (B l) (i : Int) = (l[i].toNat : Int) := B_bt l i h
theorem bt_head (c : UInt8) (t : Bs) : bt (B (c :: t)) 0 = (c.toNat : Int) := B_bt (c :: t) 0 (by simp)
theorem extract_tail (l : Bs) (n : Nat) : (B l).extract n (B l).size = B (l.drop n) := by rw [B_extract, B_size, List.take_length]
theorem extract_head (l : Bs) (n : Nat) : (B l).extract 0 n = B (l.take n) := by rw [B_extract, List.drop_zero]
theorem toList_nil (l : Bs) : ((B l).toList = ([] : List UInt8)) ↔ l = [] := by rw [B_toList]
theorem wstep (i : Nat) (h : i < 4611686018427387904) : wrap64 ((i : Int) + 1) = ((i + 1 : Nat) : Int) := by rw [w64 (by omega) (by omega)]; rfl
theorem rtokb (c : UInt8) : Ev (fun k => broadsheetref13_TokenByte.f k (c.toNat : Int)) (tokB c) := by
  have key : ∀ n : Nat, n < 256 → broadsheetref13_TokenByte.f 2 (n : Int) = some (tokB (UInt8.ofNat n)) := by decide +kernel
  have := key c.toNat c.toNat_lt
  rw [UInt8.ofNat_toNat] at this
  exact Ev.of (fun k => broadsheetref13_TokenByte.mono _ k) (k := 2) this
theorem tw_split (p : UInt8 → Bool) (l : Bs) (i : Nat) (hall : ∀ c ∈ l.take i, p c = true) : l.takeWhile p = l.take i ++ (l.drop i).takeWhile p ∧ l.dropWhile p = (l.drop i).dropWhile p := by
  have e : l = l.take i ++ l.drop i := (List.take_append_drop i l).symm
  constructor
  · conv => lhs; rw [e]
    rw [List.takeWhile_append_of_pos hall]
  · conv => lhs; rw [e]
    rw [List.dropWhile_append_of_pos hall]
theorem take_mem (l : Bs) (p : UInt8 → Bool) (i : Nat) (h : i < l.length) (hall : ∀ c ∈ l.take i, p c = true) (hc : p l[i] = true) : ∀ c ∈ l.take (i + 1), p c = true := by
  intro c hm
  rw [List.take_succ_eq_append_getElem h] at hm
  rcases List.mem_append.1 hm with hm | hm
  · exact hall c hm
  · rw [List.mem_singleton.1 hm]; exact hc
theorem rtoken_l0 (l : Bs) (hl : l.length < 4611686018427387904) : ∀ (d i : Nat), l.length - i ≤ d → i ≤ l.length → (∀ c ∈ l.take i, tokB c = true) → Ev (fun k => broadsheetref13_Token.l0 k (B l) (i : Int)) (B (l.takeWhile tokB), B (l.dropWhile tokB)) := by
  have fin : ∀ i, ¬ i < l.length → i ≤ l.length → (∀ c ∈ l.take i, tokB c = true) → Ev (fun k => broadsheetref13_Token.l0 k (B l) (i : Int)) (B (l.takeWhile tokB), B (l.dropWhile tokB)) := by
    intro i h h2 hall
    refine Ev.step (fun k => (show broadsheetref13_Token.l0 (k + 1) (B l) (i : Int) = _ from by rw [broadsheetref13_Token.l0])) ?_
    obtain ⟨e1, e2⟩ := tw_split tokB l i hall
    rw [e1, e2, List.drop_eq_nil_of_le (by omega)]
    refine Ev.ite_neg (by rw [B_size]; omega) (Ev.ite_pos (by omega) (Ev.ite_pos (by rw [B_size]; omega) ?_))
    rw [Int.toNat_natCast, extract_head, extract_tail, List.drop_eq_nil_of_le (by omega)]
    simpa using Ev.now _
  intro d
  induction d with
  | zero => intro i hd hi hall; exact fin i (by omega) hi hall
  | succ d ih =>
    intro i hd hi hall
    by_cases h : i < l.length
    · refine Ev.step (fun k => (show broadsheetref13_Token.l0 (k + 1) (B l) (i : Int) = _ from by rw [broadsheetref13_Token.l0])) ?_
      rw [bt_val l i h, wstep i (by omega)]
      refine Ev.ite_pos (by rw [B_size]; omega) (Ev.ite_pos (by omega) (Ev.bind (rtokb l[i]) ?_))
      cases ht : tokB l[i] with
      | true => exact Ev.ite_pos rfl (ih (i + 1) (by omega) (by omega) (take_mem l tokB i h hall ht))
      | false =>
        refine Ev.ite_neg (by decide) (Ev.ite_pos (by rw [B_size]; omega) ?_)
        obtain ⟨e1, e2⟩ := tw_split tokB l i hall
        obtain ⟨e3, e4⟩ := tw_drop tokB l i h
        rw [ht] at e3 e4
        rw [e1, e2, e3, e4, Int.toNat_natCast, extract_head, extract_tail]
        simpa using Ev.now _
    · exact fin i h hi hall
theorem rtoken_ev (l : Bs) (hl : l.length < 4611686018427387904) : Ev (fun k => broadsheetref13_Token.f k (B l)) (B (l.takeWhile tokB), B (l.dropWhile tokB)) :=
  rtoken_l0 l hl l.length 0 (by omega) (by omega) (by simp)
def blank (c : UInt8) : Bool := ([32, 9] : Bs).contains c
theorem blank_or (c : UInt8) : blank c = true ↔ c = 32 ∨ c = 9 := by simp [blank]
theorem rskip_ev : ∀ (l : Bs), l.length < 4611686018427387904 → Ev (fun k => broadsheetref13_Skip.f k (B l)) (B (l.dropWhile blank)) := by
  intro l
  induction l with
  | nil =>
    intro _
    refine Ev.step (fun k => (show broadsheetref13_Skip.l0 (k + 1) (B []) = _ from by rw [broadsheetref13_Skip.l0])) ?_
    exact Ev.now _
  | cons c t ih =>
    intro hl
    have hl2 : t.length < 4611686018427387904 := by rw [List.length_cons] at hl; omega
    refine Ev.step (fun k => (show broadsheetref13_Skip.l0 (k + 1) (B (c :: t)) = _ from by rw [broadsheetref13_Skip.l0])) ?_
    have hs : ((B (c :: t)).size : Int) = (t.length : Int) + 1 := by rw [B_size]; simp
    rw [bt_head, extract_tail, List.drop_one, List.tail_cons, List.dropWhile_cons]
    refine Ev.ite_pos (by omega) (Ev.ite_pos (by omega) ?_)
    by_cases h1 : c = 32
    · rw [if_pos ((blank_or c).2 (.inl h1))]
      exact Ev.ite_pos (val_eq c 32 h1) (Ev.ite_pos (by omega) (ih hl2))
    · refine Ev.ite_neg (val_ne c 32 h1) ?_
      by_cases h2 : c = 9
      · rw [if_pos ((blank_or c).2 (.inr h2))]
        exact Ev.ite_pos (val_eq c 9 h2) (Ev.ite_pos (by omega) (ih hl2))
      · rw [if_neg (fun h => ((blank_or c).1 h).elim h1 h2)]
        exact Ev.ite_neg (val_ne c 9 h2) (Ev.now _)
def numsB (l : Bs) : List Int := l.map fun b => (b.toNat : Int)
theorem numsB_str (l : Bs) : strOfNums (numsB l) = B l := by
  unfold strOfNums numsB B
  rw [List.map_map]
  congr 1
  have : ((fun n : Int => n.toNat.toUInt8) ∘ fun b : UInt8 => (b.toNat : Int)) = id := by
    funext b
    simp
  first
  | (rw [this, List.map_id]; rfl)
  | (rw [this, List.map_id])
  | simp
theorem low_num : ∀ n : Nat, n < 256 → ((lowC (UInt8.ofNat n)).toNat : Int) = if (n : Int) ≥ 65 ∧ (n : Int) ≤ 90 then ((n : Int) + 32) % 256 else n := by decide +kernel
theorem low_val (c : UInt8) : ((lowC c).toNat : Int) = if (c.toNat : Int) ≥ 65 ∧ (c.toNat : Int) ≤ 90 then ((c.toNat : Int) + 32) % 256 else c.toNat := by
  have := low_num c.toNat c.toNat_lt
  rwa [UInt8.ofNat_toNat] at this
theorem rlower_l0 (l : Bs) (hl : l.length < 140737488355328) : ∀ (d i : Nat), l.length - i ≤ d → i ≤ l.length → Ev (fun k => broadsheetref07_Lower.l0 k (B l) (numsB (small (l.take i))) (i : Int)) (B (small l)) := by
  have fin : ∀ i, ¬ i < l.length → Ev (fun k => broadsheetref07_Lower.l0 k (B l) (numsB (small (l.take i))) (i : Int)) (B (small l)) := by
    intro i h
    refine Ev.step (fun k => (show broadsheetref07_Lower.l0 (k + 1) (B l) (numsB (small (l.take i))) (i : Int) = _ from by rw [broadsheetref07_Lower.l0])) ?_
    refine Ev.ite_neg (by rw [B_size]; omega) ?_
    rw [List.take_of_length_le (by omega), numsB_str]
    exact Ev.now _
  intro d
  induction d with
  | zero => intro i hd hi; exact fin i (by omega)
  | succ d ih =>
    intro i hd hi
    by_cases h : i < l.length
    · refine Ev.step (fun k => (show broadsheetref07_Lower.l0 (k + 1) (B l) (numsB (small (l.take i))) (i : Int) = _ from by rw [broadsheetref07_Lower.l0])) ?_
      rw [bt_val l i h, wstep i (by omega)]
      have hn : (numsB (small (l.take i))).length < 140737488355328 := by
        unfold numsB small
        rw [List.length_map, List.length_map, List.length_take]
        omega
      have hs : numsB (small (l.take (i + 1))) = numsB (small (l.take i)) ++ [((lowC l[i]).toNat : Int)] := by
        rw [List.take_succ_eq_append_getElem h]
        unfold numsB small
        rw [List.map_append, List.map_append]
        rfl
      have next := ih (i + 1) (by omega) (by omega)
      rw [hs, low_val] at next
      refine Ev.ite_pos (by rw [B_size]; omega) (Ev.ite_pos (by omega) ?_)
      by_cases h1 : (l[i].toNat : Int) ≥ 65
      · refine Ev.ite_pos h1 ?_
        by_cases h2 : (l[i].toNat : Int) ≤ 90
        · rw [if_pos ⟨h1, h2⟩] at next
          exact Ev.ite_pos h2 (Ev.ite_pos hn next)
        · rw [if_neg (fun h => h2 h.2)] at next
          exact Ev.ite_neg h2 (Ev.ite_pos hn next)
      · rw [if_neg (fun h => h1 h.1)] at next
        exact Ev.ite_neg h1 (Ev.ite_pos hn next)
    · exact fin i h
theorem rlower_ev (l : Bs) (hl : l.length < 140737488355328) : Ev (fun k => broadsheetref07_Lower.f k (B l)) (B (small l)) :=
  rlower_l0 l hl l.length 0 (by omega) (by omega)
theorem dw_len (p : UInt8 → Bool) (l : Bs) : (l.dropWhile p).length ≤ l.length := (List.dropWhile_suffix p).length_le
theorem tw_len (p : UInt8 → Bool) (l : Bs) : (l.takeWhile p).length ≤ l.length := (List.takeWhile_prefix p).length_le
theorem same38_l0 (l : List S38) (hl : l.length ≤ 4611686018427387904) : ∀ (d i : Nat), l.length - i ≤ d → i ≤ l.length → Ev (fun k => broadsheetref07_SamePairs.l0 k l l (i : Int)) true := by
  have fin : ∀ (i : Nat), ¬ i < l.length → Ev (fun k => broadsheetref07_SamePairs.l0 k l l (i : Int)) true := by
    intro i h
    refine Ev.step (fun k => (show broadsheetref07_SamePairs.l0 (k + 1) l l i = _ from by rw [broadsheetref07_SamePairs.l0])) ?_
    exact Ev.ite_neg (by omega) (Ev.now _)
  intro d
  induction d with
  | zero => intro i hd hi; exact fin i (by omega)
  | succ d ih =>
    intro i hd hi
    by_cases h : i < l.length
    · refine Ev.step (fun k => (show broadsheetref07_SamePairs.l0 (k + 1) l l i = _ from by rw [broadsheetref07_SamePairs.l0])) ?_
      simp only [if_pos (show (i : Int) < (l.length : Int) by omega), if_pos (show (0 : Int) ≤ (i : Int) by omega), beq_self_eq_true, Bool.not_true, Bool.or_self, Bool.false_eq_true, if_false, w64 (x := (i : Int) + 1) (by omega) (by omega)]
      exact ih (i + 1) (by omega) (by omega)
    · exact fin i h
theorem same38_ev (l : List S38) (hl : l.length ≤ 4611686018427387904) : Ev (fun k => broadsheetref07_SamePairs.f k l l) true :=
  Ev.ite_pos rfl (same38_l0 l hl l.length 0 (by omega) (by omega))
end Go.Proofs.YtdecjlkfpbgkgaaGreatDoor.F
namespace Go.Proofs.YtdecjlkfpbgkgaaGreatDoor.F
open Go.RowKit Go.Lib Go.Proofs.YtdecjlkfpbgkgaaGreatDoorW.PrintWords Go.Proofs.YtdecjlkfpbgkgaaGreatDoor.X Go.Proofs.YtdecjlkfpbgkgaaGreatDoor.Pm Go.Proofs.YtdecjlkfpbgkgaaGreatDoor.U
set_option linter.unusedSimpArgs false
theorem okV_rd (c : UInt8) : (okV c = true) = ((¬ (c.toNat : Int) < 32 ∧ ¬ (c.toNat : Int) = 127) ∨ ((c.toNat : Int) < 32 ∧ (c.toNat : Int) = 9)) := by
  rw [okV_int]
  by_cases h1 : (c.toNat : Int) < 32
  · by_cases h2 : (c.toNat : Int) = 9
    · simp [h1, h2]
    · simp [h1, h2]
  · by_cases h2 : (c.toNat : Int) = 127
    · simp [h2]
    · have : ¬ (c.toNat : Int) = 9 := by omega
      simp [h1, h2, this]
/-- The reference's test of a byte that may be quoted. -/
theorem okV_ev {α : Type} (c : UInt8) {good bad : Nat → Option α} {r : α} (hg : okV c = true → Ev good r) (hb : okV c = false → Ev bad r) :
    Ev (fun k => if (c.toNat : Int) < 32 then (if (c.toNat : Int) = 9 then (if (c.toNat : Int) = 127 then bad k else good k) else bad k) else (if (c.toNat : Int) = 127 then bad k else good k)) r := by
  have hk := okV_rd c
  by_cases h1 : (c.toNat : Int) < 32
  · refine Ev.ite_pos h1 ?_
    by_cases h2 : (c.toNat : Int) = 9
    · exact Ev.ite_pos h2 (Ev.ite_neg (by omega) (hg (by rw [hk]; exact .inr ⟨h1, h2⟩)))
    · refine Ev.ite_neg h2 (hb ?_)
      rw [← Bool.not_eq_true, hk]
      rintro (h | h)
      · exact h.1 h1
      · exact h2 h.2
  · refine Ev.ite_neg h1 ?_
    by_cases h2 : (c.toNat : Int) = 127
    · refine Ev.ite_pos h2 (hb ?_)
      rw [← Bool.not_eq_true, hk]
      rintro (h | h)
      · exact h.2 h2
      · exact h1 h.1
    · exact Ev.ite_neg h2 (hg (by rw [hk]; exact .inl ⟨h1, h2⟩))
abbrev QR := ByteArray × ByteArray × Bool
def quoR (o : Option (Bs × Bs)) : QR := match o with | none => (⟨#[]⟩, ⟨#[]⟩, false) | some p => (B p.1, B p.2, true)
theorem numsB_snoc (l : Bs) (c : UInt8) : numsB l ++ [(c.toNat : Int)] = numsB (l ++ [c]) := by
  unfold numsB
  rw [List.map_append]
  rfl
theorem numsB_len (l : Bs) : (numsB l).length = l.length := by unfold numsB; rw [List.length_map]
theorem rquoted_l0 (s : Bs) (hs : s.length < 100000000000) : ∀ (d i : Nat) (acc : Bs), s.length - i ≤ d → i ≤ s.length → acc.length ≤ i → Ev (fun k => broadsheetref13_Quoted.l0 k (B s) (numsB acc) (i : Int)) (quoR (quotedL acc (s.drop i))) := by
  have fin : ∀ (i : Nat) (acc : Bs), ¬ i < s.length → Ev (fun k => broadsheetref13_Quoted.l0 k (B s) (numsB acc) (i : Int)) (quoR (quotedL acc (s.drop i))) := by
    intro i acc h
    refine Ev.step (fun k => (show broadsheetref13_Quoted.l0 (k + 1) (B s) (numsB acc) (i : Int) = _ from by rw [broadsheetref13_Quoted.l0])) ?_
    rw [List.drop_eq_nil_of_le (by omega), q_nil]
    exact Ev.ite_neg (by rw [B_size]; omega) (Ev.now _)
  intro d
  induction d using Nat.strongRecOn with
  | ind d ih =>
    intro i acc hd hi ha
    by_cases h : i < s.length
    · refine Ev.step (fun k => (show broadsheetref13_Quoted.l0 (k + 1) (B s) (numsB acc) (i : Int) = _ from by rw [broadsheetref13_Quoted.l0])) ?_
      rw [bt_val s i h, wstep i (by omega), q_step acc s i h]
      refine Ev.ite_pos (by rw [B_size]; omega) (Ev.ite_pos (by omega) ?_)
      by_cases h34 : s[i] = 34
      · rw [if_pos h34]
        refine Ev.ite_pos (val_eq _ 34 h34) (Ev.ite_pos (by omega) (Ev.ite_pos (by rw [B_size]; omega) ?_))
        rw [Int.toNat_natCast, extract_tail, numsB_str]
        exact Ev.now _
      · rw [if_neg h34]
        refine Ev.ite_neg (val_ne _ 34 h34) ?_
        by_cases h92 : s[i] = 92
        · rw [if_pos h92]
          refine Ev.ite_pos (val_eq _ 92 h92) ?_
          by_cases h2 : i + 1 < s.length
          · rw [dif_pos h2, bt_val s (i + 1) h2, wstep (i + 1) (by omega)]
            refine Ev.ite_neg (by rw [B_size]; omega) (Ev.ite_pos (by omega) (Ev.ite_pos (by rw [B_size]; omega) ?_))
            refine okV_ev s[i + 1] (fun hk => ?_) (fun hk => ?_)
            · rw [if_pos hk, numsB_snoc]
              refine Ev.ite_pos (by rw [numsB_len]; omega) ?_
              exact ih (d - 2) (by omega) (i + 1 + 1) _ (by omega) (by omega) (by rw [List.length_append, List.length_singleton]; omega)
            · rw [if_neg (by rw [hk]; decide)]
              exact Ev.now _
          · rw [dif_neg h2]
            exact Ev.ite_pos (by rw [B_size]; omega) (Ev.now _)
        · rw [if_neg h92]
          refine Ev.ite_neg (val_ne _ 92 h92) ?_
          refine okV_ev s[i] (fun hk => ?_) (fun hk => ?_)
          · rw [if_pos hk, numsB_snoc]
            refine Ev.ite_pos (by rw [numsB_len]; omega) ?_
            exact ih (d - 1) (by omega) (i + 1) _ (by omega) (by omega) (by rw [List.length_append, List.length_singleton]; omega)
          · rw [if_neg (by rw [hk]; decide)]
            exact Ev.now _
    · exact fin i acc h
theorem rquoted_ev (s : Bs) (hs : s.length < 100000000000) : Ev (fun k => broadsheetref13_Quoted.f k (B s)) (quoR (quotedL [] s)) :=
  rquoted_l0 s hs s.length 0 [] (by omega) (by omega) (by simp)
/-! ### value -/
def valR (s : Bs) : QR := (B (valueV s).1, B (if (valueV s).2.1 = true then (valueV s).2.2 else if Lib.hasPrefix s [34] = true then [] else (valueV s).2.2), (valueV s).2.1)
theorem hp_cons (c d : UInt8) (t : Bs) : Lib.hasPrefix (c :: t) [d] = (c == d) := by
  unfold Lib.hasPrefix
  simp [List.isPrefixOf, eq_comm, BEq.comm]
theorem tp_cons (c : UInt8) (t : Bs) : Lib.trimPrefix (c :: t) [c] = t := by
  unfold Lib.trimPrefix
  rw [if_pos (by rw [hp_cons]; exact beq_self_eq_true c)]
  rfl
theorem hp_nil (d : UInt8) : Lib.hasPrefix [] [d] = false := rfl
theorem rvalue_ev (s : Bs) (hs : s.length < 100000000000) : Ev (fun k => broadsheetref13_value.f k (B s)) (valR s) := by
  unfold broadsheetref13_value.f
  have tok : (Lib.hasPrefix s [34] = false) → Ev (fun k => broadsheetref13_value.j0 k (B s) false) (valR s) := by
    intro h
    refine Ev.step (fun k => (show broadsheetref13_value.j0 (k + 1) (B s) false = _ from by rw [broadsheetref13_value.j0])) ?_
    refine Ev.ite_neg (by decide) (Ev.bind (rtoken_ev s (by omega)) ?_)
    have e : valR s = (B (s.takeWhile tokB), B (s.dropWhile tokB), ((B (s.takeWhile tokB)).toList != ([] : List UInt8))) := by
      unfold valR valueV
      rw [h, B_toList]
      simp only [Bool.false_eq_true, if_false, ite_self]
      congr 2
      cases List.takeWhile tokB s <;> rfl
    rw [e]
    exact Ev.now _
  cases s with
  | nil => exact Ev.ite_pos ((toList_nil _).2 rfl) (tok (hp_nil _))
  | cons c t =>
    rw [List.length_cons] at hs
    have hsz : ((B (c :: t)).size : Int) = (t.length : Int) + 1 := by rw [B_size]; simp
    refine Ev.ite_neg (fun hh => List.cons_ne_nil _ _ ((toList_nil _).1 hh)) (Ev.ite_pos (by omega) ?_)
    rw [bt_head]
    by_cases h : c = 34
    · subst h
      rw [show ((((34 : UInt8).toNat : Nat) : Int) == 34) = true from rfl]
      refine Ev.step (fun k => (show broadsheetref13_value.j0 (k + 1) (B (34 :: t)) true = _ from by rw [broadsheetref13_value.j0])) ?_
      refine Ev.ite_pos rfl (Ev.ite_pos (by omega) ?_)
      rw [extract_tail, List.drop_one, List.tail_cons]
      refine Ev.bind (rquoted_ev t (by omega)) ?_
      have e : valR (34 :: t) = quoR (quotedL [] t) := by
        unfold valR valueV quoV
        rw [hp_cons, beq_self_eq_true, if_pos rfl, tp_cons]
        cases quotedL [] t with
        | none => rfl
        | some p => rfl
      rw [e]
      exact Ev.now _
    · have hf : ((c.toNat : Int) == 34) = false := by rw [beq_eq_false_iff_ne]; exact val_ne c 34 h
      rw [hf]
      exact tok (by rw [hp_cons]; exact beq_eq_false_iff_ne.2 h)
/-! ### Params -/
theorem skip_eq (l : Bs) : l.dropWhile blank = skipL l := rfl
abbrev PL := List S38 × Bool
def parR (o : Option (List S38)) : PL := (o.getD [], o.isSome)
theorem rparams_l0 : ∀ (n : Nat) (s : Bs) (acc : List S38), s.length < n → s.length ≤ 1000000000 → acc.length + s.length ≤ 1000000000 → Ev (fun k => broadsheetref13_Params.l0 k (B s) acc) (parR (paramsN n (skipL s) acc)) := by
  intro n
  induction n with
  | zero => intro s acc h; omega
  | succ n ih =>
    intro s acc h1 h2 h3
    refine Ev.step (fun k => (show broadsheetref13_Params.l0 (k + 1) (B s) acc = _ from by rw [broadsheetref13_Params.l0])) ?_
    refine Ev.bind (rskip_ev s (by omega)) ?_
    rw [skip_eq]
    have hk := skip_le s
    generalize skipL s = u at hk
    rw [paramsN]
    cases u with
    | nil =>
      rw [if_pos rfl]
      exact Ev.ite_pos ((toList_nil _).2 rfl) (Ev.now _)
    | cons c t =>
      rw [List.length_cons] at hk
      have hsz : ((B (c :: t)).size : Int) = (t.length : Int) + 1 := by rw [B_size]; simp
      rw [if_neg (List.cons_ne_nil _ _), hp_cons]
      refine Ev.ite_neg (fun hh => List.cons_ne_nil _ _ ((toList_nil _).1 hh)) (Ev.ite_pos (by omega) ?_)
      rw [bt_head, extract_tail, List.drop_one, List.tail_cons]
      by_cases hc : c = 59
      · subst hc
        rw [beq_self_eq_true, if_neg (by decide), tp_cons]
        refine Ev.ite_pos (val_eq _ 59 rfl) (Ev.ite_pos (by omega) (Ev.bind (rskip_ev t (by omega)) ?_))
        rw [skip_eq]
        have hk2 := skip_le t
        generalize skipL t = v at hk2
        refine Ev.bind (rtoken_ev v (by omega)) ?_
        have hdl := dw_len tokB v
        have htl := tw_len tokB v
        have bad : ∀ (a b : Bs), Ev (fun k => broadsheetref13_Params.j1 k acc (B a) (B b) true) (([], false) : PL) := fun a b => by
          refine Ev.step (fun k => (show broadsheetref13_Params.j1 (k + 1) acc (B a) (B b) true = _ from by rw [broadsheetref13_Params.j1])) ?_
          exact Ev.ite_pos rfl (Ev.now _)
        by_cases ht : v.takeWhile tokB = []
        · rw [if_pos ht]
          exact Ev.ite_pos ((toList_nil _).2 ht) (bad _ _)
        · rw [if_neg ht]
          refine Ev.ite_neg (fun hh => ht ((toList_nil _).1 hh)) ?_
          cases hdw : v.dropWhile tokB with
          | nil =>
            rw [if_pos (hp_nil _)]
            exact Ev.ite_pos ((toList_nil _).2 rfl) (bad _ _)
          | cons d y =>
            rw [hdw, List.length_cons] at hdl
            have hsz2 : ((B (d :: y)).size : Int) = (y.length : Int) + 1 := by rw [B_size]; simp
            refine Ev.ite_neg (fun hh => List.cons_ne_nil _ _ ((toList_nil _).1 hh)) (Ev.ite_pos (by show (0 : Int) < ((B (d :: y)).size : Int); omega) ?_)
            rw [bt_head, hp_cons]
            by_cases hd : d = 61
            · subst hd
              rw [beq_self_eq_true, if_neg (by decide), tp_cons, show ((((61 : UInt8).toNat : Nat) : Int) != 61) = false from rfl]
              refine Ev.step (fun k => (show broadsheetref13_Params.j1 (k + 1) acc (B (v.takeWhile tokB)) (B (61 :: y)) false = _ from by rw [broadsheetref13_Params.j1])) ?_
              refine Ev.ite_neg (by decide) (Ev.ite_pos (by omega) ?_)
              rw [extract_tail, List.drop_one, List.tail_cons]
              refine Ev.bind (rvalue_ev y (by omega)) ?_
              have hvl := valueV_len y
              unfold valR
              cases hv : (valueV y).2.1 with
              | false =>
                rw [if_pos (show false = false from rfl)]
                exact Ev.ite_neg (show ¬ (false = true) by decide) (Ev.now _)
              | true =>
                rw [if_pos (show true = true from rfl), if_neg (show ¬ (true = false) by decide)]
                refine Ev.ite_pos rfl (Ev.bind (rlower_ev _ (by omega)) (Ev.ite_pos (by omega) ?_))
                exact ih (valueV y).2.2 _ (by omega) (by omega) (by rw [List.length_append, List.length_singleton]; omega)
            · have hf : ((d.toNat : Int) != 61) = true := by rw [bne_iff_ne]; exact val_ne d 61 hd
              rw [if_pos (beq_eq_false_iff_ne.2 hd), hf]
              exact bad _ _
      · rw [if_pos (beq_eq_false_iff_ne.2 hc)]
        exact Ev.ite_neg (val_ne c 59 hc) (Ev.now _)
theorem rparams_ev (s : Bs) (hs : s.length ≤ 1000000000) : Ev (fun k => broadsheetref13_Params.f k (B s)) (parR (paramsL s)) :=
  rparams_l0 (s.length + 1) s [] (by omega) hs (by simpa using hs)
/-! ### Parse -/
theorem rparse_bad (a b : Bs) : Ev (fun k => broadsheetref13_Parse.j0 k (B a) (B b) true) ((⟨#[]⟩, ⟨#[]⟩, [], 130) : MR) := by
  refine Ev.step (fun k => (show broadsheetref13_Parse.j0 (k + 1) (B a) (B b) true = _ from by rw [broadsheetref13_Parse.j0])) ?_
  exact Ev.ite_pos rfl (Ev.now _)
theorem rparse_j1 (a b : Bs) (ha : a.length ≤ 1000000000) (hb : b.length ≤ 1000000000) (l : List S38) (q : Bool) : Ev (fun k => broadsheetref13_Parse.j1 k (B a) (B b) l q) (if q = true then ((⟨#[]⟩, ⟨#[]⟩, [], 130) : MR) else (M (small a), M (small b), l, 0)) := by
  refine Ev.step (fun k => (show broadsheetref13_Parse.j1 (k + 1) (B a) (B b) l q = _ from by rw [broadsheetref13_Parse.j1])) ?_
  cases q with
  | true => exact Ev.ite_pos rfl (Ev.now _)
  | false => exact Ev.ite_neg (by decide) (Ev.bind (rlower_ev a (by omega)) (Ev.bind (rlower_ev b (by omega)) (Ev.now _)))
theorem rparse_ev (s : Bs) (hs : s.length ≤ 1000000000) : Ev (fun k => broadsheetref13_Parse.f k (B s)) (parseV s) := by
  unfold broadsheetref13_Parse.f
  refine Ev.bind (rskip_ev s (by omega)) ?_
  rw [skip_eq]
  have hk := skip_le s
  unfold parseV
  generalize skipL s = u at hk
  refine Ev.bind (rtoken_ev u (by omega)) ?_
  have hdl := dw_len tokB u
  have htl := tw_len tokB u
  by_cases ht : u.takeWhile tokB = []
  · rw [if_pos (by rw [ht]; rfl)]
    exact Ev.ite_pos ((toList_nil _).2 ht) (rparse_bad _ _)
  · have hte : (u.takeWhile tokB).isEmpty = false := List.isEmpty_eq_false_iff.2 ht
    refine Ev.ite_neg (fun hh => ht ((toList_nil _).1 hh)) ?_
    cases hdw : u.dropWhile tokB with
    | nil =>
      rw [if_pos (by rw [hp_nil, hte]; rfl)]
      exact Ev.ite_pos ((toList_nil _).2 rfl) (rparse_bad _ _)
    | cons d y =>
      rw [hdw, List.length_cons] at hdl
      have hsz2 : ((B (d :: y)).size : Int) = (y.length : Int) + 1 := by rw [B_size]; simp
      refine Ev.ite_neg (fun hh => List.cons_ne_nil _ _ ((toList_nil _).1 hh)) (Ev.ite_pos (by show (0 : Int) < ((B (d :: y)).size : Int); omega) ?_)
      rw [bt_head, hp_cons]
      by_cases hd : d = 47
      · subst hd
        rw [beq_self_eq_true, tp_cons, hte, show ((((47 : UInt8).toNat : Nat) : Int) != 47) = false from rfl]
        refine Ev.step (fun k => (show broadsheetref13_Parse.j0 (k + 1) (B (u.takeWhile tokB)) (B (47 :: y)) false = _ from by rw [broadsheetref13_Parse.j0])) ?_
        refine Ev.ite_neg (by decide) (Ev.ite_pos (by omega) ?_)
        rw [extract_tail, List.drop_one, List.tail_cons]
        refine Ev.bind (rtoken_ev y (by omega)) ?_
        have hdl2 := dw_len tokB y
        have htl2 := tw_len tokB y
        refine Ev.bind (rparams_ev _ (by omega)) ?_
        have j1 := rparse_j1 (u.takeWhile tokB) (y.takeWhile tokB) (by omega) (by omega) ((paramsL (y.dropWhile tokB)).getD [])
        by_cases ht2 : y.takeWhile tokB = []
        · rw [if_pos (by rw [ht2]; rfl)]
          exact Ev.ite_pos ((toList_nil _).2 ht2) (j1 true)
        · have hte2 : (y.takeWhile tokB).isEmpty = false := List.isEmpty_eq_false_iff.2 ht2
          refine Ev.ite_neg (fun hh => ht2 ((toList_nil _).1 hh)) ?_
          rw [hte2]
          show Ev (fun k => if (paramsL (y.dropWhile tokB)).isSome = true then _ else _) _
          cases hp : (paramsL (y.dropWhile tokB)).isSome with
          | false =>
            rw [if_pos (by rfl)]
            exact Ev.ite_neg (by decide) (j1 true)
          | true =>
            refine Ev.ite_pos rfl ?_
            rw [B_toList, B_toList]
            by_cases h42 : u.takeWhile tokB = [42]
            · have e1 : (u.takeWhile tokB == [42]) = true := beq_iff_eq.2 h42
              rw [e1]
              refine Ev.ite_pos h42 ?_
              have := j1 (y.takeWhile tokB != ([42] : List UInt8))
              exact this
            · have e1 : (u.takeWhile tokB == [42]) = false := beq_eq_false_iff_ne.2 h42
              rw [e1, if_neg (by simp)]
              exact Ev.ite_neg h42 (j1 false)
      · have hf : ((d.toNat : Int) != 47) = true := by rw [bne_iff_ne]; exact val_ne d 47 hd
        rw [if_pos (by rw [beq_eq_false_iff_ne.2 hd, hte]; rfl), hf]
        exact rparse_bad _ _
theorem gparse (s : Bs) (hs : s.length ≤ 100000000) : media_Parse.f (B s) = some (parseV s) := by
  unfold media_Parse.f
  rw [if_pos (by rw [B_size]; omega)]
  rfl
/-! ### how many parameters, how long -/
theorem paramsN_all (P : S38 → Prop) (Q : Bs → Prop) (h1 : ∀ s, Q s → Q (skipL s)) (h2 : ∀ s c, Q s → Q (Lib.trimPrefix s [c])) (h3 : ∀ s, Q s → Q (s.dropWhile tokB)) (h4 : ∀ s, Q s → Q (valueV s).2.2)
    (hP : ∀ v y, Q v → Q y → P ⟨M (small (v.takeWhile tokB)), M (valueV y).1⟩) : ∀ (n : Nat) (s : Bs) (acc r : List S38), Q s → (∀ x ∈ acc, P x) → paramsN n s acc = some r → ∀ x ∈ r, P x := by
  intro n
  induction n with
  | zero => intro s acc r _ _ h; cases h
  | succ n ih =>
    intro s acc r hq ha h
    rw [paramsN] at h
    split at h
    · cases h; exact ha
    · split at h
      · cases h
      · split at h
        · cases h
        · split at h
          · cases h
          · split at h
            · cases h
            · refine ih _ _ r ?_ ?_ h
              · exact h1 _ (h4 _ (h2 _ _ (h3 _ (h1 _ (h2 _ _ hq)))))
              · intro x hx
                rcases List.mem_append.1 hx with hx | hx
                · exact ha x hx
                · rw [List.mem_singleton.1 hx]
                  exact hP _ _ (h1 _ (h2 _ _ hq)) (h2 _ _ (h3 _ (h1 _ (h2 _ _ hq))))
theorem params_vals (s : Bs) : ∀ x ∈ (paramsL s).getD [], x.f1.size ≤ s.length := by
  cases h : paramsL s with
  | none => intro x hx; cases hx
  | some r =>
    intro x hx
    refine paramsN_all (fun x => x.f1.size ≤ s.length) (fun u => u.length ≤ s.length) (fun u hu => Nat.le_trans (skip_le u) hu) (fun u c hu => Nat.le_trans (tp_le u [c]) hu) (fun u hu => Nat.le_trans (dw_len tokB u) hu) (fun u hu => Nat.le_trans (valueV_len u).1 hu) (fun v y _ hy => Nat.le_trans (valueV_len y).2 hy) (s.length + 1) (skipL s) [] r (skip_le s) (fun x hx => absurd hx (by simp)) h x hx
theorem parse_vals (s : Bs) : ∀ x ∈ (parseV s).2.2.1, x.f1.size ≤ s.length := by
  unfold parseV
  split
  · intro x hx; cases hx
  · intro x hx
    refine Nat.le_trans (params_vals _ x hx) ?_
    exact Nat.le_trans (dw_len tokB _) (Nat.le_trans (tp_le _ _) (Nat.le_trans (dw_len tokB _) (skip_le s)))
theorem paramsN_len : ∀ (n : Nat) (s : Bs) (acc r : List S38), paramsN n s acc = some r → r.length ≤ acc.length + n := by
  intro n
  induction n with
  | zero => intro s acc r h; cases h
  | succ n ih =>
    intro s acc r h
    rw [paramsN] at h
    split at h
    · cases h; omega
    · split at h
      · cases h
      · split at h
        · cases h
        · split at h
          · cases h
          · split at h
            · cases h
            · have := ih _ _ r h
              rw [List.length_append, List.length_singleton] at this
              omega
theorem parse_len (s : Bs) : (parseV s).2.2.1.length ≤ s.length + 1 := by
  unfold parseV
  split
  · simp
  · show ((paramsL _).getD []).length ≤ _
    have e : (List.dropWhile tokB (Lib.trimPrefix (List.dropWhile tokB (skipL s)) [47])).length ≤ s.length := Nat.le_trans (dw_len tokB _) (Nat.le_trans (tp_le _ _) (Nat.le_trans (dw_len tokB _) (skip_le s)))
    generalize List.dropWhile tokB (Lib.trimPrefix (List.dropWhile tokB (skipL s)) [47]) = u at e
    cases h : paramsL u with
    | none => simp
    | some r =>
      have := paramsN_len _ _ _ r h
      simp only [List.length_nil] at this
      show r.length ≤ _
      omega
theorem awake13 : broadsheetlaw13_awake.f = some true := rfl
end Go.Proofs.YtdecjlkfpbgkgaaGreatDoor.F
