/- Plain law of media types: tokens, small letters, bytes that may be, as lists of bytes. -/
import Derived.Test.YtdecjlkfpbgkgaaGreatDoorU0
import Derived.Test.YtdecjlkfpbgkgaaGreatDoorXText
namespace Go.Proofs.YtdecjlkfpbgkgaaGreatDoor.F
open Go.RowKit Go.Lib Go.Proofs.YtdecjlkfpbgkgaaGreatDoorW.PrintWords Go.Proofs.YtdecjlkfpbgkgaaGreatDoor.X
abbrev Bs := List UInt8
def okV (c : UInt8) : Bool := !((decide (c < 32) && c != 9) || c == 127)
def valB (l : Bs) : Bool := l.all okV && (trimS l [32, 9] == l)
def signsS : Bs := [48, 49, 50, 51, 52, 53, 54, 55, 56, 57, 65, 66, 67, 68, 69, 70, 71, 72, 73, 74, 75, 76, 77, 78, 79, 80, 81, 82, 83, 84, 85, 86, 87, 88, 89, 90, 97, 98, 99, 100, 101, 102, 103, 104, 105, 106, 107, 108, 109, 110, 111, 112, 113, 114, 115, 116, 117, 118, 119, 120, 121, 122, 33, 35, 36, 37, 38, 39, 42, 43, 45, 46, 94, 95, 96, 124, 126]
def tokB (c : UInt8) : Bool := signsS.contains c
theorem ib_range : ∀ (l : Bs) (c : UInt8), -1 ≤ indexByte l c := by
  intro l c
  induction l with
  | nil => exact Int.le_refl _
  | cons d t ih =>
    unfold indexByte
    split
    · omega
    · split
      · omega
      · omega
theorem ib_contains : ∀ (l : Bs) (c : UInt8), (indexByte l c ≥ 0) ↔ l.contains c = true := by
  intro l c
  induction l with
  | nil => simp [indexByte]
  | cons d t ih =>
    have hr := ib_range t c
    unfold indexByte
    by_cases h : d = c
    · subst h
      simp
    · have h1 : (d == c) = false := beq_eq_false_iff_ne.2 h
      have h2 : (c == d) = false := beq_eq_false_iff_ne.2 (fun e => h e.symm)
      rw [List.contains_cons, h2, Bool.false_or, ← ih]
      simp only [h1, Bool.false_eq_true, if_false]
      by_cases h3 : indexByte t c = -1
      · simp [h3]
      · have h4 : (indexByte t c == -1) = false := beq_eq_false_iff_ne.2 h3
        simp only [h4, Bool.false_eq_true, if_false]
        omega
theorem nat_u8 (c : UInt8) : (c.toNat : Int).toNat.toUInt8 = c := by
  rw [Int.toNat_natCast]
  exact UInt8.ofNat_toNat
/-- A byte of a token, as the walk asks it. -/
theorem tok_ask (c : UInt8) : decide ((0 : Int) ≤ indexByte signsS (c.toNat : Int).toNat.toUInt8) = tokB c := by
  rw [nat_u8, Bool.eq_iff_iff, decide_eq_true_iff]
  exact ib_contains signsS c
theorem tw_drop (p : UInt8 → Bool) (l : Bs) (i : Nat) (h : i < l.length) : (l.drop i).takeWhile p = (if p l[i] = true then l[i] :: (l.drop (i + 1)).takeWhile p else []) ∧ (l.drop i).dropWhile p = (if p l[i] = true then (l.drop (i + 1)).dropWhile p else l.drop i) := by
  rw [List.drop_eq_getElem_cons h, List.takeWhile_cons, List.dropWhile_cons]
  exact ⟨rfl, rfl⟩
/-- Is all of a text a token? -/
def fieldTok (l : Bs) : Bool := !(l.takeWhile tokB).isEmpty && (l.dropWhile tokB).isEmpty
def lowC (c : UInt8) : UInt8 := if 65 ≤ c ∧ c ≤ 90 then c ||| 32 else c
def small (l : Bs) : Bs := l.map lowC
theorem u8_lt (c : UInt8) (n : Nat) (h : n < 256) : decide (c < UInt8.ofNat n) = decide ((c.toNat : Int) < (n : Int)) := by
  rw [decide_eq_decide, UInt8.lt_iff_toNat_lt, UInt8.toNat_ofNat_of_lt' h]
  omega
theorem u8_eq (c d : UInt8) : (c == d) = ((c.toNat : Int) == (d.toNat : Int)) := by
  rw [Bool.eq_iff_iff, beq_iff_eq, beq_iff_eq]
  exact ⟨fun h => by rw [h], fun h => UInt8.toNat_inj.1 (by omega)⟩
theorem okV_int (c : UInt8) : okV c = !((decide ((c.toNat : Int) < 32) && !((c.toNat : Int) == 9)) || ((c.toNat : Int) == 127)) := by
  unfold okV bne
  rw [show decide (c < 32) = decide ((c.toNat : Int) < 32) from u8_lt c 32 (by decide), u8_eq c 9, u8_eq c 127]
  rfl
theorem all_drop (p : UInt8 → Bool) (l : Bs) (i : Nat) (h : i < l.length) : (l.drop i).all p = (p l[i] && (l.drop (i + 1)).all p) := by
  rw [List.drop_eq_getElem_cons h, List.all_cons]
theorem trim_len (l p : Bs) : (trimS l p).length ≤ l.length := by
  unfold trimS trimLeftS trimRightS
  have h1 := (List.dropWhile_suffix (p.contains ·) (l := (l.reverse.dropWhile (p.contains ·)).reverse)).length_le
  have h2 := (List.dropWhile_suffix (p.contains ·) (l := l.reverse)).length_le
  rw [List.length_reverse] at h1 h2
  omega
end Go.Proofs.YtdecjlkfpbgkgaaGreatDoor.F
