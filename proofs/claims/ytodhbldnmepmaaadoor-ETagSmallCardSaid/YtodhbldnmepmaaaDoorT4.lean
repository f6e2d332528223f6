/- Plain law: whether a tag is one of a list, and what may be done: the reference's answer and the program's are the same; 'awake' is true. -/
import Derived.Test.YtodhbldnmepmaaaDoorT3
namespace Go.Proofs.YtodhbldnmepmaaaDoor.T
open Go.RowKit Go.Lib Go.Proofs.YtodhbldnmepmaaaDoorW.PrintWords Go.Proofs.YtodhbldnmepmaaaDoor.X Go.Proofs.YtodhbldnmepmaaaDoor.Pe Go.Proofs.YtodhbldnmepmaaaDoor.U
set_option linter.unusedSimpArgs false

def hitT (w : Bool) (v : ByteArray) (weak : Bool) (x : S24) : Bool := (x.f1.toList == v.toList) && (weak || (!x.f0 && !w))
theorem rd24 (l : List S24) (i : Nat) (h : i < l.length) : rd_T24 l (i : Int) = l[i] := by
  unfold rd_T24
  rw [Int.toNat_natCast, List.getD_eq_getElem?_getD, List.getElem?_eq_getElem h, Option.getD_some]
theorem rhas_l0 (l : List S24) (hl : l.length ≤ 4611686018427387904) (w : Bool) (v : ByteArray) (weak : Bool) : ∀ (d i : Nat), l.length - i ≤ d → i ≤ l.length → Ev (fun k => broadsheetref17_Has.l0 k l weak (i : Int) w v) ((l.drop i).any (hitT w v weak)) := by
  have fin : ∀ (i : Nat), i = l.length → Ev (fun k => broadsheetref17_Has.l0 k l weak (i : Int) w v) ((l.drop i).any (hitT w v weak)) := by
    intro i h
    refine Ev.step (fun k => (show broadsheetref17_Has.l0 (k + 1) l weak i w v = _ from by rw [broadsheetref17_Has.l0])) ?_
    rw [List.drop_eq_nil_of_le (by omega)]
    simp only [if_neg (show ¬ (i : Int) < (l.length : Int) by omega), List.any_nil]
    exact Ev.now _
  intro d
  induction d with
  | zero => intro i hd hi; exact fin i (by omega)
  | succ d ih =>
    intro i hd hi
    by_cases h : i < l.length
    · have ew : wrap64 ((i : Int) + 1) = ((i + 1 : Nat) : Int) := by rw [w64 (by omega) (by omega)]; rfl
      refine Ev.step (fun k => (show broadsheetref17_Has.l0 (k + 1) l weak i w v = _ from by rw [broadsheetref17_Has.l0])) ?_
      rw [List.drop_eq_getElem_cons h, List.any_cons]
      have ih := ih (i + 1) (by omega) (by omega)
      simp only [if_pos (show (i : Int) < (l.length : Int) by omega), if_pos (show (0 : Int) ≤ (i : Int) by omega), rd24 l i h, ew]
      generalize l[i] = x
      obtain ⟨f0, f1⟩ := x
      by_cases he : f1.toList = v.toList
      · have hb : (f1.toList == v.toList) = true := beq_iff_eq.2 he
        simp only [if_pos he, hitT, hb, Bool.true_and]
        cases weak with
        | true =>
          simp only [if_true, Bool.true_or]
          exact Ev.now _
        | false =>
          cases f0 with
          | true =>
            simp only [Bool.false_eq_true, if_false, if_true, Bool.not_true, Bool.false_and, Bool.false_or]
            exact ih
          | false =>
            cases w with
            | true =>
              simp only [Bool.false_eq_true, if_false, if_true, Bool.not_true, Bool.not_false, Bool.and_false, Bool.true_and, Bool.false_or]
              exact ih
            | false =>
              simp only [Bool.false_eq_true, if_false, Bool.not_false, Bool.and_self, Bool.false_or, Bool.true_or]
              exact Ev.now _
      · have hb : (f1.toList == v.toList) = false := beq_eq_false_iff_ne.2 he
        simp only [if_neg he, hitT, hb, Bool.false_and, Bool.false_or]
        exact ih
    · exact fin i (by omega)
theorem any_sameS (l : List S24) (w : Bool) (v : ByteArray) : ((!w) && l.any (sameS ⟨w, v⟩)) = l.any (hitT w v false) := by
  cases w with
  | true =>
    rw [Bool.not_true, Bool.false_and]
    symm
    rw [List.any_eq_false]
    intro x _
    simp [hitT]
  | false =>
    rw [Bool.not_false, Bool.true_and]
    congr 1
    funext x
    unfold sameS hitT
    cases x.f0 with
    | true => simp
    | false =>
      simp only [Bool.not_false, Bool.and_self, Bool.false_or, Bool.and_true, beq_self_eq_true, Bool.true_and]
      rw [Bool.eq_iff_iff, beq_iff_eq, beq_iff_eq]
      exact ⟨Eq.symm, Eq.symm⟩
theorem rhas_ev (l : List S24) (hl : l.length ≤ 4611686018427387904) (star w : Bool) (v : ByteArray) (there weak : Bool) : Ev (fun k => broadsheetref17_Has.f k l star w v there weak) (hasV l star ⟨w, v⟩ there weak) := by
  unfold broadsheetref17_Has.f hasV
  cases there with
  | false =>
    simp only [Bool.false_eq_true, if_false, if_true]
    exact Ev.now _
  | true =>
    cases star with
    | true =>
      simp only [if_true]
      exact Ev.now _
    | false =>
      simp only [if_true, Bool.false_eq_true, if_false]
      have h0 := rhas_l0 l hl w v weak l.length 0 (by omega) (by omega)
      rw [List.drop_zero] at h0
      cases weak with
      | true =>
        simp only [if_true]
        have e : (fun x : S24 => x.f1.toList == v.toList) = hitT w v true := by
          funext x
          simp [hitT]
        rw [e]
        exact h0
      | false =>
        simp only [Bool.true_eq_false, Bool.false_eq_true, if_false]
        rw [any_sameS]
        exact h0
theorem ghas (l : List S24) (hl : l.length ≤ 4611686018427387904) (star w : Bool) (v : ByteArray) (there weak : Bool) : etag_Has.f l star w v there weak = some (hasV l star ⟨w, v⟩ there weak) := by
  unfold etag_Has.f
  rw [if_pos hl]

def noneV (none : Bs) (t : S24) (there get : Bool) : Int :=
  if none = [] then 0 else if (listV none).2.2 = 0 then (if hasV (listV none).1 (listV none).2.1 t there true = true then (if get = true then 304 else 412) else 0) else 400
def mayV (m none : Bs) (t : S24) (there get : Bool) : Int :=
  if m = [] then noneV none t there get else if (listV m).2.2 = 0 then (if hasV (listV m).1 (listV m).2.1 t there false = true then noneV none t there get else 412) else 400
theorem gmay_ev (m none : Bs) (hm : m.length < 4000000000) (hn : none.length < 4000000000) (w : Bool) (v : ByteArray) (there get : Bool) :
    Ev (fun k => etag_May.f k (B m) (B none) w v there get) (mayV m none ⟨w, v⟩ there get) := by
  have l1 := listV_len m
  have l2 := listV_len none
  have j0 : Ev (fun k => etag_May.j0 k (B none) there get w v) (noneV none ⟨w, v⟩ there get) := by
    refine Ev.step (fun k => (show etag_May.j0 (k + 1) (B none) there get w v = _ from by rw [etag_May.j0])) ?_
    unfold noneV
    rw [glist none hn]
    simp only [Option.bind_some]
    by_cases h : none = []
    · simp only [if_pos (show (B none).toList = ([] : List UInt8) from (toList_nil _).2 h), if_pos h]
      exact Ev.now _
    · simp only [if_neg (show ¬ (B none).toList = ([] : List UInt8) from fun x => h ((toList_nil _).1 x)), if_neg h]
      by_cases h2 : (listV none).2.2 = 0
      · simp only [if_pos h2, ghas (listV none).1 (by omega), Option.bind_some]
        cases hasV (listV none).1 (listV none).2.1 ⟨w, v⟩ there true with
        | true =>
          simp only [if_true]
          cases get with
          | true => exact Ev.now _
          | false => exact Ev.now _
        | false =>
          simp only [Bool.false_eq_true, if_false]
          exact Ev.now _
      · simp only [if_neg h2]
        exact Ev.now _
  unfold etag_May.f mayV
  rw [glist m hm]
  simp only [Option.bind_some]
  by_cases h : m = []
  · simp only [if_pos (show (B m).toList = ([] : List UInt8) from (toList_nil _).2 h), if_pos h]
    exact j0
  · simp only [if_neg (show ¬ (B m).toList = ([] : List UInt8) from fun x => h ((toList_nil _).1 x)), if_neg h]
    by_cases h2 : (listV m).2.2 = 0
    · simp only [if_pos h2, ghas (listV m).1 (by omega), Option.bind_some]
      cases hasV (listV m).1 (listV m).2.1 ⟨w, v⟩ there false with
      | true =>
        simp only [if_true]
        exact j0
      | false =>
        simp only [Bool.false_eq_true, if_false]
        exact Ev.now _
    · simp only [if_neg h2]
      exact Ev.now _
theorem rmay_ev (m none : Bs) (hm : m.length < 4000000000) (hn : none.length < 4000000000) (w : Bool) (v : ByteArray) (there get : Bool) :
    Ev (fun k => broadsheetref17_May.f k (B m) (B none) w v there get) (mayV m none ⟨w, v⟩ there get) := by
  have l1 := listV_len m
  have l2 := listV_len none
  have j0 : Ev (fun k => broadsheetref17_May.j0 k (B none) there get w v) (noneV none ⟨w, v⟩ there get) := by
    refine Ev.step (fun k => (show broadsheetref17_May.j0 (k + 1) (B none) there get w v = _ from by rw [broadsheetref17_May.j0])) ?_
    unfold noneV
    by_cases h : none = []
    · simp only [if_pos (show (B none).toList = ([] : List UInt8) from (toList_nil _).2 h), if_pos h]
      exact Ev.now _
    · simp only [if_neg (show ¬ (B none).toList = ([] : List UInt8) from fun x => h ((toList_nil _).1 x)), if_neg h]
      refine Ev.bind (rlist_ev none hn) ?_
      by_cases h2 : (listV none).2.2 = 0
      · simp only [if_pos h2]
        refine Ev.bind (rhas_ev (listV none).1 (by omega) _ w v there true) ?_
        cases hasV (listV none).1 (listV none).2.1 ⟨w, v⟩ there true with
        | true =>
          simp only [if_true]
          cases get with
          | true => exact Ev.now _
          | false => exact Ev.now _
        | false =>
          simp only [Bool.false_eq_true, if_false]
          exact Ev.now _
      · simp only [if_neg h2]
        exact Ev.now _
  unfold broadsheetref17_May.f mayV
  by_cases h : m = []
  · simp only [if_pos (show (B m).toList = ([] : List UInt8) from (toList_nil _).2 h), if_pos h]
    exact j0
  · simp only [if_neg (show ¬ (B m).toList = ([] : List UInt8) from fun x => h ((toList_nil _).1 x)), if_neg h]
    refine Ev.bind (rlist_ev m hm) ?_
    by_cases h2 : (listV m).2.2 = 0
    · simp only [if_pos h2]
      refine Ev.bind (rhas_ev (listV m).1 (by omega) _ w v there false) ?_
      cases hasV (listV m).1 (listV m).2.1 ⟨w, v⟩ there false with
      | true =>
        simp only [if_true]
        exact j0
      | false =>
        simp only [Bool.false_eq_true, if_false]
        exact Ev.now _
    · simp only [if_neg h2]
      exact Ev.now _
theorem awake17 : Ev (fun k => broadsheetlaw17_awake.f k) true :=
  Ev.of (fun k => broadsheetlaw17_awake.mono k) (k := 30) (by decide +kernel)
end Go.Proofs.YtodhbldnmepmaaaDoor.T
