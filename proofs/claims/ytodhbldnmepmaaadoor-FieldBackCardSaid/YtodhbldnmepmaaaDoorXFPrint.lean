/- field.Print, by hand: fields' lines. -/
import Derived.Test.YtodhbldnmepmaaaDoorXPair
import Derived.Test.YtodhbldnmepmaaaDoorShelfB
import Derived.Test.YtodhbldnmepmaaaDoorPf0
namespace Go.Proofs.YtodhbldnmepmaaaDoor.X
open Go.RowKit Go.Shelf Go.Proofs.YtodhbldnmepmaaaDoorW.PrintWords Go.Proofs.YtodhbldnmepmaaaDoor.Pf
open Go.Proofs.YtodhbldnmepmaaaDoor.F (fieldTok valB)
theorem builderAtF_below {T e : TypeId} {B b : Nat} {p : Value} {bs : List Value} {w w' : World} (h : Lib.BuilderAtF T e B b p bs w) (hb : Below w.heap.size w w') : Lib.BuilderAtF T e B b p bs w' := by
  obtain ⟨hB, v, hk, hown, hne⟩ := h
  exact ⟨hB, v, (hb.block b (Array.getElem?_eq_some_iff.1 hk).1).trans hk, hown.kept (grown_of_below hb none) (by cases v.ownBlock <;> simp), hne⟩
/-- A builder that holds a text. -/
def Bl (B b : Nat) (l : List UInt8) (w : World) : Prop := Lib.IsBuilderF 81 5 B b (Lib.byteCells l) w
theorem Bl.below {B b : Nat} {l : List UInt8} {w w' : World} (h : Bl B b l w) (hb : Below w.heap.size w w') : Bl B b l w' :=
  h.elim (fun x => .inl (builderAtF_below x hb)) (fun x => .inr (builderAtF_below x hb))
theorem Bl.new (w : World) : Bl w.heap.size w.heap.size [] (w.alloc (.cells #[.pointer none, .slice none 0 0] 81)) := Lib.IsBuilderF.of (Lib.fresh_isBuilder 81 5 w)
theorem write_calls (B b : Nat) (l : List UInt8) (s : ByteArray) (w : World) (h : Bl B b l w) (hlen : l.length + s.size ≤ 140737488355328) (hBw : B ≤ w.heap.size) :
    Calls Tryd.prog 54 #[.pointer (some ⟨b, 0, none⟩), .string s] w fun e w' => e = .returned (.tuple #[.int .i64 s.size, .nilIface]) ∧ Bl B b (l ++ L s) w' ∧ Below B w w' := by
  refine (Tryd.Builder_WriteString_k B b (Lib.byteCells l) s w h (by rw [Lib.byteCells_length]; exact hlen) hBw).mono ?_
  rintro e w' ⟨rfl, h1, h2, _⟩
  refine ⟨rfl, .inr ?_, h2⟩
  have e1 : Lib.byteCells (l ++ L s) = Lib.byteCells l ++ Lib.strCells s := by simp [Lib.byteCells, Lib.strCells, L]
  rw [e1]
  exact h1
theorem string_calls (B b : Nat) (l : List UInt8) (w : World) (h : Bl B b l w) (hBw : B ≤ w.heap.size) :
    Calls Tryd.prog 56 #[.pointer (some ⟨b, 0, none⟩)] w fun e w' => e = .returned (.string (M l)) ∧ Below B w w' := by
  refine (Tryd.Builder_String_any_f B b l w h hBw).mono ?_
  rintro e w' ⟨rfl, _, h2⟩
  exact ⟨rfl, h2⟩
theorem len_calls (B b : Nat) (l : List UInt8) (w : World) (h : Bl B b l w) :
    Calls Tryd.prog 55 #[.pointer (some ⟨b, 0, none⟩)] w fun e w' => e = .returned (.int .i64 (l.length : Int)) ∧ w' = w := by
  refine (Tryd.Builder_Len_f B b (Lib.byteCells l) w h).mono ?_
  rintro e w' ⟨rfl, rfl⟩
  exact ⟨by rw [Lib.byteCells_length], rfl⟩
def okF (x : S49) : Bool := fieldTok (L x.f0) && valB (L x.f1)
def lineT (x : S49) : List UInt8 := L x.f0 ++ [58, 32] ++ L x.f1 ++ [13, 10]
def tot : List S49 → Nat
  | [] => 0
  | x :: r => x.f0.size + x.f1.size + 4 + tot r
def textT (l : List S49) : List UInt8 := l.flatMap lineT
def printV (l : List S49) : ByteArray × Int :=
  if l.all okF = true then (if (textT l ++ [13, 10]).length > 8000 then (⟨#[]⟩, 2) else (M (textT l ++ [13, 10]), 0)) else (⟨#[]⟩, 180)
theorem textT_len : ∀ l : List S49, (textT l).length = tot l
  | [] => rfl
  | x :: r => by
    have h : (lineT x).length = x.f0.size + x.f1.size + 4 := by
      unfold lineT
      simp only [List.length_append, List.length_cons, List.length_nil]
      have h1 : (L x.f0).length = x.f0.size := rfl
      have h2 : (L x.f1).length = x.f1.size := rfl
      omega
    show (lineT x ++ textT r).length = _
    rw [List.length_append, h, textT_len r]
    rfl
theorem tot_append (l r : List S49) : tot (l ++ r) = tot l + tot r := by
  induction l with
  | nil => simp [tot]
  | cons x l ih => simp only [List.cons_append, tot, ih]; omega
theorem tot_take (l : List S49) (i : Nat) (h : i < l.length) : tot (l.take i) + (l[i].f0.size + l[i].f1.size + 4) ≤ tot l ∧ tot (l.take i) ≤ tot l := by
  have e : l = l.take i ++ l[i] :: l.drop (i + 1) := by rw [← List.drop_eq_getElem_cons h, List.take_append_drop]
  have h1 : tot l = tot (l.take i) + (l[i].f0.size + l[i].f1.size + 4 + tot (l.drop (i + 1))) := by
    conv => lhs; rw [e]
    rw [tot_append]
    rfl
  omega
set_option maxHeartbeats 4000000 in
set_option maxRecDepth 100000 in
theorem fprint_calls (A : Option Addr) (c : Nat) (l : List S49) (w : World) (hC : Kd.C k49 w A l.length l) (ht : tot l ≤ 1000000) (hl : l.length ≤ 1000000) :
    Calls Tryd.prog 30 #[.slice A l.length c] w fun e w' => e = .returned (.tuple #[.string (printV l).1, .int .i64 (printV l).2]) ∧ Below w.heap.size w w' := by
  have HC := Lib.hid hC
  have HT := Lib.hid ht
  have HL := Lib.hid hl
  clear hC ht hl
  have hbn := Bl.new w
  have HBN := Lib.hid hbn
  have HB0 := Lib.hid ((Below.refl w.heap.size w).alloc (Nat.le_refl _) (.cells #[.pointer none, .slice none 0 0] 81))
  clear hbn
  have hu49 := Tryd.underlying49
  go_enter Tryd.func30, Tryd.ntmps30
  go_wp2
  go_loopg [9] (l.length + 1) (fun kq v9 wr => ∃ (i : Nat), v9 = .int .i64 i ∧ Aside0 (Bl w.heap.size w.heap.size (textT (l.take i)) wr) ∧ Aside0 (Below w.heap.size w wr) ∧ Aside0 ((l.take i).all okF = true) ∧ Aside0 (i + kq = l.length + 1 ∧ i ≤ l.length))
  case atStart => exact ⟨0, rfl, ⟨HBN.out⟩, ⟨HB0.out⟩, ⟨rfl⟩, ⟨by omega, by omega⟩⟩
  case round =>
    obtain ⟨i, rfl, HBl, HB, HA, HK⟩ := hrel
    cases gk with
    | zero => exact absurd HK.out (by omega)
    | succ k1 =>
      by_cases hi : i < l.length
      · obtain ⟨ad, rfl, x0, x1⟩ := at_T49 (Kd.C_below HC.out HB.out) (i : Int) (by omega) (by omega)
        have hrd : rd_T49 l (i : Int) = l[i]'hi := by
          unfold rd_T49
          rw [Int.toNat_natCast, List.getD_eq_getElem?_getD, List.getElem?_eq_getElem hi, Option.getD_some]
        have HT2 := Aside0.mk (tot_take l i hi)
        have HS := Aside0.mk (List.take_succ_eq_append_getElem (l := l) (i := i) hi)
        rw [hrd] at x0 x1
        clear hrd
        generalize l[i]'hi = x at x0 x1 HT2 HS
        rw [Int.toNat_natCast] at x0 x1
        have hlt : decide ((i : Int) < (l.length : Int)) = true := decide_eq_true (by omega)
        have p1 := eq_true (show 0 ≤ (i : Int) by omega)
        have p2 := eq_true (show (i : Int) < (l.length : Int) by omega)
        have hz0 : x.f0.size + x.f1.size + 4 ≤ 1000000 := by have := HT2.out.1; have := HT.out; omega
        go_wp2_with fail
        have K := Aside0.mk (Two.new wr 49 (.string x.f0) (.string x.f1))
        have HB1 := Aside0.mk (HB.out.alloc HB.out.size (.cells #[.string x.f0, .string x.f1] 49))
        have HBl1 := Aside0.mk (HBl.out.below ((Below.refl _ wr).alloc (Nat.le_refl _) (.cells #[.string x.f0, .string x.f1] 49)))
        clear x0 x1
        refine (ftoken_calls x.f0 _ (by omega)).mono ?_
        rintro e w1 ⟨rfl, h1⟩
        have K2 := Aside0.mk (K.out.below h1)
        have HB2 := Aside0.mk (HB1.out.trans (h1.mono HB1.out.size))
        have HBl2 := Aside0.mk (HBl1.out.below h1)
        clear K HB1 HBl1 h1 HB HBl
        obtain ⟨p, hp⟩ : ∃ p, fieldTok (L x.f0) = p := ⟨_, rfl⟩
        have HP := Aside0.mk hp
        rw [hp]
        clear hp
        have c0 := K2.out.c0
        have c1 := K2.out.c1
        cases p with
        | false =>
          have HV := Aside0.mk (show printV l = (⟨#[]⟩, 180) from by
            unfold printV
            rw [if_neg]
            intro h
            have := List.all_eq_true.1 h x (List.mem_of_mem_take (by rw [HS.out]; simp))
            unfold okF at this
            rw [HP.out] at this
            cases this)
          go_wp2
          go_ret2
          exact ⟨by rw [HV.out]; rfl, HB2.out⟩
        | true =>
          go_wp2_with fail
          refine (value_calls x.f1 w1 (by omega)).mono ?_
          rintro e w2 ⟨rfl, h2⟩
          have K3 := Aside0.mk (K2.out.below h2)
          have HB3 := Aside0.mk (HB2.out.trans (h2.mono HB2.out.size))
          have HBl3 := Aside0.mk (HBl2.out.below h2)
          clear K2 HB2 HBl2 h2 c0 c1
          obtain ⟨q, hq⟩ : ∃ q, valB (L x.f1) = q := ⟨_, rfl⟩
          have HQ := Aside0.mk hq
          rw [hq]
          clear hq
          have c0 := K3.out.c0
          have c1 := K3.out.c1
          cases q with
          | false =>
            have HV := Aside0.mk (show printV l = (⟨#[]⟩, 180) from by
              unfold printV
              rw [if_neg]
              intro h
              have := List.all_eq_true.1 h x (List.mem_of_mem_take (by rw [HS.out]; simp))
              unfold okF at this
              rw [HP.out, HQ.out] at this
              cases this)
            go_wp2
            go_ret2
            exact ⟨by rw [HV.out]; rfl, HB3.out⟩
          | true =>
            have hok : okF x = true := by unfold okF; rw [HP.out, HQ.out]; rfl
            have HOK := Aside0.mk hok
            clear hok
            have e1 := eq_false (show ¬ 9223372036854775807 < x.f0.size + 2 by omega)
            have e2 := eq_false (show ¬ 9223372036854775807 < x.f0.size + 2 + x.f1.size by omega)
            have e3 := eq_false (show ¬ 9223372036854775807 < x.f0.size + 2 + x.f1.size + 2 by omega)
            have hlen : (textT (l.take i)).length + (x.f0 ++ (⟨#[58, 32]⟩ : ByteArray) ++ x.f1 ++ (⟨#[13, 10]⟩ : ByteArray)).size ≤ 140737488355328 := by
              rw [textT_len, ByteArray.size_append, ByteArray.size_append, ByteArray.size_append]
              have l1 : (⟨#[58, 32]⟩ : ByteArray).size = 2 := rfl
              have l2 : (⟨#[13, 10]⟩ : ByteArray).size = 2 := rfl
              have := HT2.out
              have := HT.out
              omega
            have HLEN := Aside0.mk hlen
            clear hlen
            go_wp2_with fail
            clear e1 e2 e3 c0 c1
            with_reducible refine (write_calls w.heap.size w.heap.size (textT (l.take i)) (x.f0 ++ (⟨#[58, 32]⟩ : ByteArray) ++ x.f1 ++ (⟨#[13, 10]⟩ : ByteArray)) w2 HBl3.out HLEN.out HB3.out.size).mono ?_
            rintro e w3 ⟨rfl, h3, h4⟩
            have hL : textT (l.take i) ++ L (x.f0 ++ (⟨#[58, 32]⟩ : ByteArray) ++ x.f1 ++ (⟨#[13, 10]⟩ : ByteArray)) = textT (l.take (i + 1)) := by
              rw [HS.out, textT, textT, List.flatMap_append]
              simp [lineT, L, ByteArray.data_append]
            rw [hL] at h3
            have HBl4 := Aside0.mk h3
            have HB4 := Aside0.mk (HB3.out.trans h4)
            clear hL h3 h4 HBl3 HB3
            go_wp2
            go_roundg k1
            case measure => have := HK.out; omega
            case rel =>
              refine ⟨i + 1, congrArg (Value.int IntKind.i64) (show wrap64 ((i : Int) + 1) = ((i + 1 : Nat) : Int) from by have := HL.out; unfold wrap64; omega), HBl4, HB4, ⟨?_⟩, ⟨by have := HK.out; omega, hi⟩⟩
              rw [HS.out, List.all_append, HA.out]
              simp [HOK.out]
      · have hlt : decide ((i : Int) < (l.length : Int)) = false := decide_eq_false (by omega)
        have hl : l.take i = l := List.take_of_length_le (by omega)
        rw [hl] at HBl HA
        clear hl
        have hlen : (textT l).length + (⟨#[13, 10]⟩ : ByteArray).size ≤ 140737488355328 := by
          rw [textT_len]
          have l2 : (⟨#[13, 10]⟩ : ByteArray).size = 2 := rfl
          have := HT.out
          omega
        have HLEN := Aside0.mk hlen
        clear hlen
        go_wp2_with fail
        with_reducible refine (write_calls w.heap.size w.heap.size (textT l) (⟨#[13, 10]⟩ : ByteArray) wr HBl.out HLEN.out HB.out.size).mono ?_
        rintro e w3 ⟨rfl, h3, h4⟩
        have HBl4 := Aside0.mk (show Bl w.heap.size w.heap.size (textT l ++ [13, 10]) w3 from h3)
        have HB4 := Aside0.mk (HB.out.trans h4)
        clear h3 h4 HBl HB
        go_wp2_with fail
        with_reducible refine (len_calls w.heap.size w.heap.size (textT l ++ [13, 10]) w3 HBl4.out).mono ?_
        rintro e w4 ⟨rfl, rfl⟩
        by_cases h8 : (textT l ++ [13, 10]).length > 8000
        · have HV := Aside0.mk (show printV l = (⟨#[]⟩, 2) from by unfold printV; rw [if_pos HA.out, if_pos h8])
          have HE := Aside0.mk h8
          generalize (textT l ++ [13, 10]).length = z at *
          have g0 : decide ((8000 : Int) < (z : Int)) = true := decide_eq_true (by omega)
          have g1 : decide (8000 < z) = true := decide_eq_true h8
          clear h8
          go_wp2
          go_ret2
          exact ⟨by rw [HV.out]; rfl, HB4.out⟩
        · have HV := Aside0.mk (show printV l = (M (textT l ++ [13, 10]), 0) from by unfold printV; rw [if_pos HA.out, if_neg h8])
          generalize (textT l ++ [13, 10]).length = z at *
          have g0 : decide ((8000 : Int) < (z : Int)) = false := decide_eq_false (by omega)
          have g1 : decide (8000 < z) = false := decide_eq_false h8
          clear h8
          go_wp2_with fail
          with_reducible refine (string_calls w.heap.size w.heap.size (textT l ++ [13, 10]) w4 HBl4.out HB4.out.size).mono ?_
          rintro e w5 ⟨rfl, h5⟩
          go_wp2
          go_ret2
          exact ⟨by rw [HV.out]; rfl, HB4.out.trans h5⟩
end Go.Proofs.YtodhbldnmepmaaaDoor.X
