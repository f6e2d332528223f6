/- etag.Has, by hand: is a tag one of a list? -/
import Derived.Test.YtodhbldnmepmaaaDoorXTag
import Derived.Test.YtodhbldnmepmaaaDoorPe0
import Derived.BigQuiet
import Derived.Deep.QuietTactic
namespace Go.Proofs.YtodhbldnmepmaaaDoor.X
open Go.RowKit Go.Shelf Go.Proofs.YtodhbldnmepmaaaDoorW.PrintWords Go.Proofs.YtodhbldnmepmaaaDoorW.PrintLast Go.Proofs.YtodhbldnmepmaaaDoorW.PrintMore Go.Proofs.YtodhbldnmepmaaaDoor.Pe

theorem eqTag (d : Nat) (w : World) (x0 y0 : Bool) (x1 y1 : ByteArray) :
    (Op.equalIn (d + 2) 24 (.agg #[.bool x0, .string x1]) (.agg #[.bool y0, .string y1])).run Tryd.prog w = .ok (x0 == y0 && (x1.toList == y1.toList)) w := by
  refine eqA_of Tryd.underlying24 (by kernel_rfl) ?_
  refine eqf_cons (by rfl) (by go_simp; rfl) (by go_simp; rfl) (by go_simp) ?_
  exact eqf_last (by rfl) (by go_simp; rfl) (by go_simp; rfl) (by go_simp)
attribute [local go_sem high] eqTag

set_option maxHeartbeats 1000000 in
set_option maxRecDepth 100000 in
theorem clo_calls (bt : Nat) (t x : S24) (w : World) (ht : Two w bt 24 (.bool t.f0) (.string t.f1)) :
    Calls Tryd.prog 37 #[.agg #[.bool x.f0, .string x.f1], .pointer (some ⟨bt, 0, none⟩)] w fun e w' => e = .returned (.bool (x.f1.toList == t.f1.toList)) ∧ Below w.heap.size w w' := by
  have c0 := ht.c0
  have c1 := ht.c1
  have hlt := ht.lt
  go_enter Tryd.func37, Tryd.ntmps37
  go_wp2
  go_ret
  exact ⟨rfl, (Below.refl _ _).alloc (Nat.le_refl _) _⟩

def idxV (y : List UInt8) : List S24 → Int → Int
  | [], _ => -1
  | x :: t, i => if (x.f1.toList == y) = true then i else idxV y t (i + 1)
theorem idxV_any (y : List UInt8) : ∀ (l : List S24) (i : Int), 0 ≤ i → decide (idxV y l i ≥ 0) = l.any fun x => x.f1.toList == y := by
  intro l
  induction l with
  | nil => intro i _; rfl
  | cons x t ih =>
    intro i hi
    unfold idxV
    rw [List.any_cons]
    cases h : (x.f1.toList == y) with
    | true => simp [hi]
    | false => simp only [Bool.false_eq_true, if_false, Bool.false_or]; exact ih (i + 1) (by omega)

set_option maxHeartbeats 1000000 in
set_option maxRecDepth 100000 in
theorem index_calls (bt : Nat) (t : S24) (A : Option Addr) (c : Nat) (l : List S24) (w : World) (ht : Two w bt 24 (.bool t.f0) (.string t.f1)) (hC : Kd.C k24 w A l.length l) (hl : l.length ≤ 4611686018427387904) :
    Calls Tryd.prog 59 #[.slice A l.length c, .func (.func 37) #[] #[.pointer (some ⟨bt, 0, none⟩)]] w fun e w' => e = .returned (.int .i64 (idxV t.f1.toList l 0)) ∧ Below w.heap.size w w' := by
  have HT := Lib.hid ht
  have HC := Lib.hid hC
  clear ht hC
  go_enter Tryd.func59, Tryd.ntmps59
  go_wp2
  go_loopg [8] (l.length + 1) (fun kq v8 wr => ∃ (i : Nat), v8 = .int .i64 i ∧ Aside0 (Below w.heap.size w wr) ∧ Aside0 (idxV t.f1.toList l 0 = idxV t.f1.toList (l.drop i) i) ∧ Aside0 (i + kq = l.length + 1 ∧ i ≤ l.length))
  case atStart => exact ⟨0, rfl, ⟨Below.refl _ _⟩, ⟨rfl⟩, ⟨by omega, by omega⟩⟩
  case round =>
    obtain ⟨i, rfl, HB, HE, HK⟩ := hrel
    cases gk with
    | zero => exact absurd HK.out (by omega)
    | succ k1 =>
      by_cases hi : i < l.length
      · obtain ⟨ad, rfl, x0, x1⟩ := at_T24 (Kd.C_below HC.out HB.out) (i : Int) (by omega) (by omega)
        have hst : idxV t.f1.toList (l.drop i) (i : Int) = if ((rd_T24 l i).f1.toList == t.f1.toList) = true then (i : Int) else idxV t.f1.toList (l.drop (i + 1)) ((i : Int) + 1) := by
          rw [List.drop_eq_getElem_cons hi]
          unfold rd_T24
          rw [Int.toNat_natCast, List.getD_eq_getElem?_getD, List.getElem?_eq_getElem hi, Option.getD_some]
          rfl
        have HST := Aside0.mk hst
        clear hst
        generalize rd_T24 l (i : Int) = x at x0 x1 HST
        rw [Int.toNat_natCast] at x0 x1
        have hlt : decide ((i : Int) < (l.length : Int)) = true := decide_eq_true (by omega)
        obtain ⟨q, hq⟩ : ∃ b, (x.f1.toList == t.f1.toList) = b := ⟨_, rfl⟩
        have HQ := Aside0.mk hq
        clear hq
        go_wp2_with (go_at_call 37; refine (clo_calls bt t x _ (HT.out.below HB.out)).mono ?_; rintro e w9 ⟨rfl, h9⟩)
        · rename_i h
          go_ret
          exact ⟨by rw [HE.out, HST.out, if_pos (by simpa using h)]; rfl, HB.out.trans (h9.mono HB.out.size)⟩
        · rename_i h
          go_roundg k1
          case measure => omega
          case rel => exact ⟨i + 1, rfl, ⟨HB.out.trans (h9.mono HB.out.size)⟩, ⟨HE.out.trans (by rw [HST.out, if_neg (by simpa using h)]; rfl)⟩, ⟨by have := HK.out; omega, by omega⟩⟩
      · have hlt : decide ((i : Int) < (l.length : Int)) = false := decide_eq_false (by omega)
        go_wp2
        go_ret
        exact ⟨by rw [HE.out, List.drop_eq_nil_of_le (by omega)]; rfl, HB.out⟩

set_option maxHeartbeats 1000000 in
set_option maxRecDepth 100000 in
theorem containsFunc_calls (bt : Nat) (t : S24) (A : Option Addr) (c : Nat) (l : List S24) (w : World) (ht : Two w bt 24 (.bool t.f0) (.string t.f1)) (hC : Kd.C k24 w A l.length l) (hl : l.length ≤ 4611686018427387904) :
    Calls Tryd.prog 36 #[.slice A l.length c, .func (.func 37) #[] #[.pointer (some ⟨bt, 0, none⟩)]] w fun e w' => e = .returned (.bool (l.any fun x => x.f1.toList == t.f1.toList)) ∧ Below w.heap.size w w' := by
  have HI := index_calls bt t A c l w ht hC hl
  have HA := Aside0.mk (idxV_any t.f1.toList l 0 (by omega))
  clear ht hC
  go_enter Tryd.func36, Tryd.ntmps36
  go_wp2_with fail
  refine HI.mono ?_
  rintro e w1 ⟨rfl, hb⟩
  clear HI
  go_wp2
  go_ret
  exact ⟨by rw [← HA.out]; rfl, hb⟩

/-- Two tags are the same. -/
def sameS (t x : S24) : Bool := (t.f0 == x.f0) && (t.f1.toList == x.f1.toList)
def idxS (t : S24) : List S24 → Int → Int
  | [], _ => -1
  | x :: r, i => if sameS t x = true then i else idxS t r (i + 1)
theorem idxS_any (t : S24) : ∀ (l : List S24) (i : Int), 0 ≤ i → decide (idxS t l i ≥ 0) = l.any (sameS t) := by
  intro l
  induction l with
  | nil => intro i _; rfl
  | cons x r ih =>
    intro i hi
    unfold idxS
    rw [List.any_cons]
    cases h : sameS t x with
    | true => simp [hi]
    | false => simp only [Bool.false_eq_true, if_false, Bool.false_or]; exact ih (i + 1) (by omega)

set_option maxHeartbeats 1000000 in
set_option maxRecDepth 100000 in
theorem index60_calls (t : S24) (A : Option Addr) (c : Nat) (l : List S24) (w : World) (hC : Kd.C k24 w A l.length l) (hl : l.length ≤ 4611686018427387904) :
    Calls Tryd.prog 60 #[.slice A l.length c, .agg #[.bool t.f0, .string t.f1]] w fun e w' => e = .returned (.int .i64 (idxS t l 0)) ∧ Below w.heap.size w w' := by
  have HC := Lib.hid hC
  clear hC
  go_enter Tryd.func60, Tryd.ntmps60
  go_wp2
  go_loopg [8] (l.length + 1) (fun kq v8 wr => ∃ (i : Nat), v8 = .int .i64 i ∧ Aside0 (Below w.heap.size w wr) ∧ Aside0 (Two wr w.heap.size 24 (.bool t.f0) (.string t.f1)) ∧ Aside0 (idxS t l 0 = idxS t (l.drop i) i) ∧ Aside0 (i + kq = l.length + 1 ∧ i ≤ l.length))
  case atStart => exact ⟨0, rfl, ⟨(Below.refl _ _).alloc (Nat.le_refl _) _⟩, ⟨Two.new w 24 _ _⟩, ⟨rfl⟩, ⟨by omega, by omega⟩⟩
  case round =>
    obtain ⟨i, rfl, HB, HT, HE, HK⟩ := hrel
    cases gk with
    | zero => exact absurd HK.out (by omega)
    | succ k1 =>
      have c0 := HT.out.c0
      have c1 := HT.out.c1
      by_cases hi : i < l.length
      · obtain ⟨ad, rfl, x0, x1⟩ := at_T24 (Kd.C_below HC.out HB.out) (i : Int) (by omega) (by omega)
        have hst : idxS t (l.drop i) (i : Int) = if sameS t (rd_T24 l i) = true then (i : Int) else idxS t (l.drop (i + 1)) ((i : Int) + 1) := by
          rw [List.drop_eq_getElem_cons hi]
          unfold rd_T24
          rw [Int.toNat_natCast, List.getD_eq_getElem?_getD, List.getElem?_eq_getElem hi, Option.getD_some]
          rfl
        have HST := Aside0.mk hst
        clear hst
        generalize rd_T24 l (i : Int) = x at x0 x1 HST
        rw [Int.toNat_natCast] at x0 x1
        have hlt : decide ((i : Int) < (l.length : Int)) = true := decide_eq_true (by omega)
        have hu24 := Tryd.underlying24
        have p1 := eq_true (show 0 ≤ (i : Int) by omega)
        have p2 := eq_true (show (i : Int) < (l.length : Int) by omega)
        obtain ⟨q, hq⟩ : ∃ b, (t.f0 == x.f0 && (t.f1.toList == x.f1.toList)) = b := ⟨_, rfl⟩
        have HQ := Aside0.mk (show sameS t x = q from hq)
        cases q with
        | true =>
          go_wp2
          go_quiet (fail)
          go_wp2
          go_ret
          exact ⟨by rw [HE.out, HST.out, if_pos HQ.out]; rfl, HB.out.trans ((below_drewN _ _).mono HB.out.size)⟩
        | false =>
          go_wp2
          go_quiet (fail)
          go_wp2
          go_roundg k1
          case measure => omega
          case rel => exact ⟨i + 1, rfl, ⟨HB.out.trans ((below_drewN _ _).mono HB.out.size)⟩, ⟨HT.out.below (below_drewN _ _)⟩, ⟨HE.out.trans (by rw [HST.out, if_neg (by rw [HQ.out]; decide)]; rfl)⟩, ⟨by have := HK.out; omega, by omega⟩⟩
      · have hlt : decide ((i : Int) < (l.length : Int)) = false := decide_eq_false (by omega)
        go_wp2
        go_ret
        exact ⟨by rw [HE.out, List.drop_eq_nil_of_le (by omega)]; rfl, HB.out⟩

set_option maxHeartbeats 1000000 in
set_option maxRecDepth 100000 in
theorem contains_calls (t : S24) (A : Option Addr) (c : Nat) (l : List S24) (w : World) (hC : Kd.C k24 w A l.length l) (hl : l.length ≤ 4611686018427387904) :
    Calls Tryd.prog 38 #[.slice A l.length c, .agg #[.bool t.f0, .string t.f1]] w fun e w' => e = .returned (.bool (l.any (sameS t))) ∧ Below w.heap.size w w' := by
  have HC := Lib.hid hC
  have HA := Aside0.mk (idxS_any t l 0 (by omega))
  clear hC
  go_enter Tryd.func38, Tryd.ntmps38
  go_wp2_with (go_at_call 60; refine (index60_calls t A c l _ (by first | exact HC.out | exact Kd.C_below HC.out ((Below.refl _ _).alloc (Nat.le_refl _) _)) hl).mono ?_; rintro e w1 ⟨rfl, hb⟩)
  go_ret
  exact ⟨by rw [← HA.out]; rfl, ((Below.refl w.heap.size w).alloc (Nat.le_refl _) _).trans (hb.mono (by simp))⟩

def hasV (l : List S24) (star : Bool) (t : S24) (there weak : Bool) : Bool :=
  if there = false then false else if star = true then true else if weak = true then l.any (fun x => x.f1.toList == t.f1.toList) else (!t.f0) && l.any (sameS t)

set_option maxHeartbeats 2000000 in
set_option maxRecDepth 100000 in
theorem has_calls (A : Option Addr) (c : Nat) (l : List S24) (star : Bool) (t : S24) (there weak : Bool) (w : World) (hC : Kd.C k24 w A l.length l) (hl : l.length ≤ 4611686018427387904) :
    Calls Tryd.prog 15 #[.slice A l.length c, .bool star, .agg #[.bool t.f0, .string t.f1], .bool there, .bool weak] w fun e w' => e = .returned (.bool (hasV l star t there weak)) ∧ Below w.heap.size w w' := by
  have HC := Lib.hid hC
  clear hC
  have hmf : ∀ (fn : Fn) (first cap : Array Value) (w : World), (Instr.makeFunc fn first cap).run Tryd.prog w = .ok (.func fn first cap) w := fun _ _ _ _ => rfl
  have HA := Aside0.mk ((Below.refl w.heap.size w).alloc (Nat.le_refl _) (.cells #[.bool t.f0, .string t.f1] 24))
  have HT := Aside0.mk (Two.new w 24 (.bool t.f0) (.string t.f1))
  cases there with
  | false =>
    go_enter Tryd.func15, Tryd.ntmps15
    go_wp2
    go_ret
    exact ⟨rfl, HA.out⟩
  | true =>
    cases star with
    | true =>
      go_enter Tryd.func15, Tryd.ntmps15
      go_wp2
      go_ret
      exact ⟨rfl, HA.out⟩
    | false =>
      cases weak with
      | true =>
        go_enter Tryd.func15, Tryd.ntmps15
        go_wp2_with (go_at_call 36; refine (containsFunc_calls _ t A c l _ HT.out (Kd.C_below HC.out HA.out) hl).mono ?_; rintro e w1 ⟨rfl, hb⟩)
        go_ret
        exact ⟨rfl, HA.out.trans (hb.mono (by simp))⟩
      | false =>
        obtain ⟨z, y⟩ := t
        cases z with
        | true =>
          go_enter Tryd.func15, Tryd.ntmps15
          go_wp2
          go_ret
          exact ⟨rfl, HA.out⟩
        | false =>
          go_enter Tryd.func15, Tryd.ntmps15
          go_wp2_with (go_at_call 38; refine (contains_calls ⟨false, y⟩ A c l _ (Kd.C_below HC.out HA.out) hl).mono ?_; rintro e w1 ⟨rfl, hb⟩)
          go_ret
          exact ⟨rfl, HA.out.trans (hb.mono (by simp))⟩
end Go.Proofs.YtodhbldnmepmaaaDoor.X
