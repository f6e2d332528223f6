/- Plain law, first part: texts as lists of bytes; what the printed words say of them; a code point at the head of a text. media.Text's own methods, by hand: Skip, Take: what stands in the text's cell behind the call. Plain law of media types: tokens, small letters, bytes that may be, as lists of bytes. media.Text's Token, and field.token, by hand. media.Small, walked by hand. media.Text's Quoted and Value, walked by hand. media.Text's Value and Params, and media.Parse, walked by hand. -/
import Derived.Test.YtdecjlkfpbgkgaaGreatDoorWWords
import Derived.Test.YtdecjlkfpbgkgaaGreatDoorShelf
import Derived.Shelf.Strings.SlTrimAscii
import Derived.WalkKit
import Derived.Tactics
import Derived.KernelRfl
import Derived.Lib.Hide
import Derived.Deep.Heap
import Derived.RangeFuncBox
import Derived.Lib.ConvBytes
import Derived.Laws.BytesArg
import Derived.Deep.RegionWith
import Derived.RegionTactic
import Derived.ChangeAlike
import Derived.Deep.QuietTactic
import Derived.Lib.SlBytesRow
import Derived.Lib.FrozenHead
import Derived.BigQuiet
namespace Go.Proofs.YtdecjlkfpbgkgaaGreatDoor.U
open Go.RowKit Go.Lib Go.Proofs.YtdecjlkfpbgkgaaGreatDoorW.PrintWords

abbrev Bs := List UInt8
/-- A text out of its bytes. -/
def B (l : Bs) : ByteArray := ByteArray.mk (Array.mk l)
theorem B_eta (s : ByteArray) : ∃ l, s = B l := ⟨s.data.toList, by cases s with | mk d => cases d; rfl⟩
theorem B_lit (l : Bs) : (ByteArray.mk (List.toArray l)) = B l := rfl
theorem B_size (l : Bs) : (B l).size = l.length := rfl
theorem B_data (l : Bs) : (B l).data.toList = l := rfl
theorem toList_data (s : ByteArray) : s.toList = s.data.toList := by
  have h : ∀ (n i : Nat) (r : Bs), s.size - i = n → ByteArray.toList.loop s i r = r.reverse ++ s.data.toList.drop i := by
    intro n
    induction n with
    | zero =>
      intro i r hn
      unfold ByteArray.toList.loop
      rw [if_neg (by omega), List.drop_eq_nil_of_le (by show s.data.size ≤ i; have : s.size = s.data.size := rfl; omega)]
      simp
    | succ n ih =>
      intro i r hn
      have hi : i < s.data.toList.length := by show i < s.data.size; have : s.size = s.data.size := rfl; omega
      unfold ByteArray.toList.loop
      rw [if_pos (by omega), ih (i + 1) _ (by omega), List.drop_eq_getElem_cons hi]
      have hg : s.get! i = s.data.toList[i] := by
        show s.data[i]! = _
        rw [getElem!_pos s.data i (by simpa using hi)]
        simp
      rw [hg]
      simp
  have := h (s.size - 0) 0 [] rfl
  simpa [ByteArray.toList] using this
theorem B_toList (l : Bs) : (B l).toList = l := by rw [toList_data]; rfl
theorem B_inj {a b : Bs} (h : B a = B b) : a = b := by cases h; rfl
theorem B_extract (l : Bs) (a b : Nat) : (B l).extract a b = B ((l.take b).drop a) := by
  have : ((B l).extract a b).data = (B ((l.take b).drop a)).data := by
    rw [ByteArray.data_extract]
    apply Array.ext'
    rw [Array.toList_extract, List.extract_eq_drop_take']
    rfl
  cases h1 : (B l).extract a b
  rw [h1] at this
  simp only at this
  rw [this]
theorem B_append (a b : Bs) : B a ++ B b = B (a ++ b) := by
  have : (B a ++ B b).data = (B (a ++ b)).data := by
    rw [ByteArray.data_append]
    apply Array.ext'
    simp [B]
  cases h1 : B a ++ B b
  rw [h1] at this
  simp only at this
  rw [this]
theorem B_bt (l : Bs) (i : Nat) (h : i < l.length) : bt (B l) (i : Int) = (l[i].toNat : Int) := by
  unfold bt
  rw [dif_pos (by simpa [B_size] using h)]
  rfl
theorem B_get (l : Bs) (i : Nat) : ((B l).get! i).toNat = (l.getD i 0).toNat := by
  show (((Array.mk l)[i]!) : UInt8).toNat = _
  by_cases h : i < l.length
  · rw [getElem!_pos (Array.mk l) i (by simpa using h), List.getD_eq_getElem?_getD, List.getElem?_eq_getElem h]; rfl
  · rw [getElem!_neg (Array.mk l) i (by simpa using h), List.getD_eq_getElem?_getD, List.getElem?_eq_none (by omega)]; rfl

theorem w64 {x : Int} (h0 : -9223372036854775808 ≤ x) (h1 : x < 9223372036854775808) : wrap64 x = x := by unfold wrap64; omega

/-! ### the rounds -/
theorem Ev.ite_pos {α : Type} {c : Prop} [Decidable c] {g f : Nat → Option α} {r : α} (hc : c) (h : Ev g r) : Ev (fun k => if c then g k else f k) r := by
  simpa [hc] using h
theorem Ev.ite_neg {α : Type} {c : Prop} [Decidable c] {g f : Nat → Option α} {r : α} (hc : ¬ c) (h : Ev f r) : Ev (fun k => if c then g k else f k) r := by
  simpa [hc] using h
theorem Ev.some_bind {α β : Type} {a : α} {f : Nat → α → Option β} {r : β} (h : Ev (fun k => f k a) r) : Ev (fun k => (some a).bind (f k)) r := h
end Go.Proofs.YtdecjlkfpbgkgaaGreatDoor.U
namespace Go.Proofs.YtdecjlkfpbgkgaaGreatDoor.X
open Go.RowKit Go.Shelf Go.Proofs.YtdecjlkfpbgkgaaGreatDoorW.PrintWords

abbrev L (s : ByteArray) : List UInt8 := s.data.toList
abbrev M (l : List UInt8) : ByteArray := ⟨l.toArray⟩

/-- One box written in both worlds. -/
theorem below_set {w w1 : World} {b : Nat} {t : TypeId} {u : Value} (h : Below w.heap.size w w1) (hb : Boxed w b t u) (v : Value) : Below w.heap.size (w.setCell ⟨b, 0, none⟩ v) (w1.setCell ⟨b, 0, none⟩ v) := by
  have hb1 : Boxed w1 b t u := (h.block b hb.lt).trans hb
  refine ⟨h.os, h.tape, h.output, ?_, fun k hk => ?_⟩
  · rw [Deep.nblk_setCell, Deep.nblk_setCell]; exact h.size
  · by_cases e : k = b
    · subst e
      exact (hb1.set v).trans (hb.set v).symm
    · rw [Below.heap_setCell _ _ _ _ (by exact e), Below.heap_setCell _ _ _ _ (by exact e), h.block k hk]

theorem trimLeft_calls (s : ByteArray) (w : World) :
    Calls Tryz.prog 35 #[.string s, .string ⟨#[32, 9]⟩] w fun e w' => e = .returned (.string (M (Lib.trimLeftS (L s) [32, 9]))) ∧ Below w.heap.size w w' :=
  Any.strings_TrimLeft_laid Tryz.lays161 (by kernel_rfl) s ⟨#[32, 9]⟩ w (by decide) (ascii_of_all (by decide))

set_option maxHeartbeats 1000000 in
set_option maxRecDepth 100000 in
theorem skip_calls (b : Nat) (s : ByteArray) (w : World) (hb : Boxed w b 43 (.string s)) :
    Calls Tryz.prog 21 #[.pointer (some ⟨b, 0, none⟩)] w fun e w' => e = .returned (.tuple #[]) ∧ Below w.heap.size (w.setCell ⟨b, 0, none⟩ (.string (M (Lib.trimLeftS (L s) [32, 9])))) w' := by
  have hc := hb.cell
  have hf := hb.frozen
  have HB := Lib.hid hb
  clear hb
  go_enter Tryz.func21, Tryz.ntmps21
  go_wp2_with fail
  refine (trimLeft_calls s w).mono ?_
  rintro e w1 ⟨rfl, h1⟩
  have hb1 : Boxed w1 b 43 (.string s) := (h1.block b HB.out.lt).trans HB.out
  have hc1 := hb1.cell
  have hf1 := hb1.frozen
  have H1 := Lib.hid (below_set h1 HB.out (.string (M (Lib.trimLeftS (L s) [32, 9]))))
  clear h1 hb1 hc hf
  go_wp2
  exact bodyPost_end (results_none rfl _ _ _) rfl ⟨rfl, H1.out⟩

set_option maxHeartbeats 1000000 in
set_option maxRecDepth 100000 in
theorem take_calls (b : Nat) (s p : ByteArray) (w : World) (hb : Boxed w b 43 (.string s)) :
    Calls Tryz.prog 23 #[.pointer (some ⟨b, 0, none⟩), .string p] w fun e w' => e = .returned (.bool (Lib.hasPrefix (L s) (L p))) ∧ Below w.heap.size (w.setCell ⟨b, 0, none⟩ (.string (M (Lib.trimPrefix (L s) (L p))))) w' := by
  have hc := hb.cell
  have hf := hb.frozen
  have HB := Lib.hid hb
  clear hb
  go_enter Tryz.func23, Tryz.ntmps23
  go_wp2_with fail
  refine (Tryz.strings_CutPrefix s p w).mono ?_
  rintro e w1 ⟨rfl, rfl⟩
  go_wp2
  go_ret
  exact ⟨rfl, Below.refl _ _⟩
end Go.Proofs.YtdecjlkfpbgkgaaGreatDoor.X
namespace Go.Proofs.YtdecjlkfpbgkgaaGreatDoor.F
open Go.RowKit Go.Lib Go.Proofs.YtdecjlkfpbgkgaaGreatDoorW.PrintWords Go.Proofs.YtdecjlkfpbgkgaaGreatDoor.X
abbrev Bs := List UInt8
def okV (c : UInt8) : Bool := !((decide (c < 32) && c != 9) || c == 127)
def valB (l : Bs) : Bool := l.all okV && (trimS l [32, 9] == l)
def signsS : Bs := [48, 49, 50, 51, 52, 53, 54, 55, 56, 57, 65, 66, 67, 68, 69, 70, 71, 72, 73, 74, 75, 76, 77, 78, 79, 80, 81, 82, 83, 84, 85, 86, 87, 88, 89, 90, 97, 98, 99, 100, 101, 102, 103, 104, 105, 106, 107, 108, 109, 110, 111, 112, 113, 114, 115, 116, 117, 118, 119, 120, 121, 122, 33, 35, 36, 37, 38, 39, 42, 43, 45, 46, 94, 95, 96, 124, 126]
def tokB (c : UInt8) : Bool := signsS.contains c
theorem ib_range : ∀ (l : Bs) (c : UInt8), -1 ≤ indexByte l c := by
  intro l c
  induction l with
  | nil => exact Int.le_refl _
  | cons d t ih =>
    unfold indexByte
    split
    · omega
    · split
      · omega
      · omega
theorem ib_contains : ∀ (l : Bs) (c : UInt8), (indexByte l c ≥ 0) ↔ l.contains c = true := by
  intro l c
  induction l with
  | nil => simp [indexByte]
  | cons d t ih =>
    have hr := ib_range t c
    unfold indexByte
    by_cases h : d = c
    · subst h
      simp
    · have h1 : (d == c) = false := beq_eq_false_iff_ne.2 h
      have h2 : (c == d) = false := beq_eq_false_iff_ne.2 (fun e => h e.symm)
      rw [List.contains_cons, h2, Bool.false_or, ← ih]
      simp only [h1, Bool.false_eq_true, if_false]
      by_cases h3 : indexByte t c = -1
      · simp [h3]
      · have h4 : (indexByte t c == -1) = false := beq_eq_false_iff_ne.2 h3
        simp only [h4, Bool.false_eq_true, if_false]
        omega
theorem nat_u8 (c : UInt8) : (c.toNat : Int).toNat.toUInt8 = c := by
  rw [Int.toNat_natCast]
  exact UInt8.ofNat_toNat
/-- A byte of a token, as the walk asks it. -/
theorem tok_ask (c : UInt8) : decide ((0 : Int) ≤ indexByte signsS (c.toNat : Int).toNat.toUInt8) = tokB c := by
  rw [nat_u8, Bool.eq_iff_iff, decide_eq_true_iff]
  exact ib_contains signsS c
theorem tw_drop (p : UInt8 → Bool) (l : Bs) (i : Nat) (h : i < l.length) : (l.drop i).takeWhile p = (if p l[i] = true then l[i] :: (l.drop (i + 1)).takeWhile p else []) ∧ (l.drop i).dropWhile p = (if p l[i] = true then (l.drop (i + 1)).dropWhile p else l.drop i) := by
  rw [List.drop_eq_getElem_cons h, List.takeWhile_cons, List.dropWhile_cons]
  exact ⟨rfl, rfl⟩
/-- Is all of a text a token? -/
def fieldTok (l : Bs) : Bool := !(l.takeWhile tokB).isEmpty && (l.dropWhile tokB).isEmpty
def lowC (c : UInt8) : UInt8 := if 65 ≤ c ∧ c ≤ 90 then c ||| 32 else c
def small (l : Bs) : Bs := l.map lowC
theorem u8_lt (c : UInt8) (n : Nat) (h : n < 256) : decide (c < UInt8.ofNat n) = decide ((c.toNat : Int) < (n : Int)) := by
  rw [decide_eq_decide, UInt8.lt_iff_toNat_lt, UInt8.toNat_ofNat_of_lt' h]
  omega
theorem u8_eq (c d : UInt8) : (c == d) = ((c.toNat : Int) == (d.toNat : Int)) := by
  rw [Bool.eq_iff_iff, beq_iff_eq, beq_iff_eq]
  exact ⟨fun h => by rw [h], fun h => UInt8.toNat_inj.1 (by omega)⟩
theorem okV_int (c : UInt8) : okV c = !((decide ((c.toNat : Int) < 32) && !((c.toNat : Int) == 9)) || ((c.toNat : Int) == 127)) := by
  unfold okV bne
  rw [show decide (c < 32) = decide ((c.toNat : Int) < 32) from u8_lt c 32 (by decide), u8_eq c 9, u8_eq c 127]
  rfl
theorem all_drop (p : UInt8 → Bool) (l : Bs) (i : Nat) (h : i < l.length) : (l.drop i).all p = (p l[i] && (l.drop (i + 1)).all p) := by
  rw [List.drop_eq_getElem_cons h, List.all_cons]
theorem trim_len (l p : Bs) : (trimS l p).length ≤ l.length := by
  unfold trimS trimLeftS trimRightS
  have h1 := (List.dropWhile_suffix (p.contains ·) (l := (l.reverse.dropWhile (p.contains ·)).reverse)).length_le
  have h2 := (List.dropWhile_suffix (p.contains ·) (l := l.reverse)).length_le
  rw [List.length_reverse] at h1 h2
  omega
end Go.Proofs.YtdecjlkfpbgkgaaGreatDoor.F
namespace Go.Proofs.YtdecjlkfpbgkgaaGreatDoor.X
open Go.RowKit Go.Shelf Go.Proofs.YtdecjlkfpbgkgaaGreatDoorW.PrintWords
open Go.Proofs.YtdecjlkfpbgkgaaGreatDoor.F (tokB fieldTok signsS tok_ask tw_drop)
theorem M_extract (s : ByteArray) (a b : Nat) : s.extract a b = M (((L s).take b).drop a) := by
  have : (s.extract a b).data = (M (((L s).take b).drop a)).data := by
    rw [ByteArray.data_extract]
    apply Array.ext'
    rw [Array.toList_extract, List.extract_eq_drop_take']
  cases h1 : s.extract a b
  rw [h1] at this
  simp only at this
  rw [this]
theorem M_take (s : ByteArray) (i : Nat) : s.extract 0 i = M ((L s).take i) := by rw [M_extract, List.drop_zero]
theorem M_drop (s : ByteArray) (i : Nat) : s.extract i s.size = M ((L s).drop i) := by rw [M_extract, List.take_of_length_le (show (L s).length ≤ s.size from Nat.le_refl _)]
theorem tok_idx (c : UInt8) (w : World) : ∃ z : Int, decide (0 ≤ z) = tokB c ∧ Calls Tryz.prog 36 #[.string (M signsS), .int .u8 (c.toNat : Int)] w (fun e w' => e = .returned (.int .i64 z) ∧ w' = w) :=
  ⟨_, tok_ask c, Tryz.strings_IndexByte (M signsS) (c.toNat : Int) w⟩
set_option maxHeartbeats 1000000 in
set_option maxRecDepth 100000 in
theorem token_calls (b : Nat) (s : ByteArray) (w : World) (hb : Boxed w b 43 (.string s)) (hs : s.size < 4611686018427387904) :
    Calls Tryz.prog 22 #[.pointer (some ⟨b, 0, none⟩)] w fun e w' => e = .returned (.string (M ((L s).takeWhile tokB))) ∧ w' = w.setCell ⟨b, 0, none⟩ (.string (M ((L s).dropWhile tokB))) := by
  have hc := hb.cell
  have hf := hb.frozen
  have hz : (L s).length = s.size := rfl
  clear hb
  go_enter Tryz.func22, Tryz.ntmps22
  go_wp2
  go_loopg [3] (s.size + 1) (fun kq v3 wr => ∃ (i : Nat), v3 = .int .i64 i ∧ wr = w ∧ Aside0 ((L s).takeWhile tokB = (L s).take i ++ ((L s).drop i).takeWhile tokB ∧ (L s).dropWhile tokB = ((L s).drop i).dropWhile tokB) ∧ Aside0 (i + kq = s.size + 1 ∧ i ≤ s.size))
  case atStart => exact ⟨0, rfl, rfl, ⟨rfl, rfl⟩, ⟨by omega, by omega⟩⟩
  case round =>
    obtain ⟨i, rfl, rfl, HE, HK⟩ := hrel
    cases gk with
    | zero => exact absurd HK.out (by omega)
    | succ k1 =>
      by_cases hi : i < s.size
      · have hlt : decide ((i : Int) < (s.size : Int)) = true := decide_eq_true (by omega)
        have hlt2 : decide (i < s.size) = true := decide_eq_true (by omega)
        have hst := tw_drop tokB (L s) i (by omega)
        obtain ⟨z, hz0, HC⟩ := tok_idx ((L s)[i]'(by omega)) wr
        obtain ⟨q, hq⟩ : ∃ q, tokB ((L s)[i]'(by omega)) = q := ⟨_, rfl⟩
        rw [hq] at hz0 hst
        have HS := Aside0.mk hst
        have HT := Aside0.mk (List.take_succ_eq_append_getElem (l := L s) (i := i) (by omega))
        clear hst hq
        go_wp2_with fail
        refine HC.mono ?_
        rintro e w9 ⟨rfl, rfl⟩
        clear HC
        cases q with
        | true =>
          go_wp2
          go_roundg k1
          case measure => omega
          case rel =>
            refine ⟨i + 1, rfl, rfl, ⟨?_, ?_⟩, ⟨by have := HK.out; omega, by omega⟩⟩
            · rw [HE.out.1, HT.out, HS.out.1]; simp
            · rw [HE.out.2, HS.out.2]; rfl
        | false =>
          have hle : i ≤ s.size := by omega
          go_wp2
          go_ret
          have e1 : (L s).takeWhile tokB = (L s).take i := by rw [HE.out.1, HS.out.1]; simp
          have e2 : (L s).dropWhile tokB = (L s).drop i := by rw [HE.out.2, HS.out.2]; simp
          rw [e1, e2, ← M_take, ← M_drop]
          exact ⟨rfl, rfl⟩
      · have hlt : decide ((i : Int) < (s.size : Int)) = false := decide_eq_false (by omega)
        have hlt2 : decide (i < s.size) = false := decide_eq_false (by omega)
        have hle : i ≤ s.size := HK.out.2
        go_wp2
        go_ret
        have hi2 : i = (L s).length := by omega
        have e1 : (L s).takeWhile tokB = (L s).take i := by rw [HE.out.1, List.drop_eq_nil_of_le (by omega)]; simp
        have e2 : (L s).dropWhile tokB = (L s).drop i := by rw [HE.out.2, List.drop_eq_nil_of_le (by omega)]; rfl
        rw [e1, e2, ← M_take, ← M_drop]
        exact ⟨rfl, rfl⟩
theorem M_toList (l : List UInt8) : (M l).toList = l := U.B_toList l
/-- A text against the empty one, in all the walk's spellings. -/
theorem M_empty (l : List UInt8) : (M l).toList.isEmpty = l.isEmpty ∧ ((M l).toList == ([] : List UInt8)) = l.isEmpty ∧ ((M l).toList != ([] : List UInt8)) = !l.isEmpty := by
  rw [M_toList]
  cases l <;> exact ⟨rfl, rfl, rfl⟩
end Go.Proofs.YtdecjlkfpbgkgaaGreatDoor.X
namespace Go.Proofs.YtdecjlkfpbgkgaaGreatDoor.X
open Go.RowKit Go.Shelf Go.Proofs.YtdecjlkfpbgkgaaGreatDoorW.PrintWords
open Go.Proofs.YtdecjlkfpbgkgaaGreatDoor.F (okV valB okV_int all_drop lowC small)
def smallTo (l : List UInt8) (i : Nat) : List UInt8 := (l.take i).map lowC ++ l.drop i
theorem smallTo_zero (l : List UInt8) : smallTo l 0 = l := by simp [smallTo]
theorem smallTo_all (l : List UInt8) (i : Nat) (h : l.length ≤ i) : smallTo l i = small l := by
  unfold smallTo small
  rw [List.take_of_length_le h, List.drop_eq_nil_of_le h, List.append_nil]
theorem smallTo_len (l : List UInt8) (i : Nat) : (smallTo l i).length = l.length := by
  unfold smallTo
  rw [List.length_append, List.length_map, List.length_take, List.length_drop]
  omega
theorem smallTo_get (l : List UInt8) (i : Nat) (h : i < l.length) : (smallTo l i)[i]? = some l[i] := by
  unfold smallTo
  rw [List.getElem?_append_right (by rw [List.length_map, List.length_take]; omega), List.length_map, List.length_take, Nat.min_eq_left (by omega), Nat.sub_self, List.getElem?_drop, Nat.add_zero, List.getElem?_eq_getElem h]
theorem smallTo_succ (l : List UInt8) (i : Nat) (h : i < l.length) : smallTo l (i + 1) = (smallTo l i).set i (lowC l[i]) := by
  unfold smallTo
  have e : (l.take i).length = i := by rw [List.length_take]; omega
  rw [List.take_succ_eq_append_getElem h, List.map_append, List.drop_eq_getElem_cons h, List.set_append_right _ _ (by rw [List.length_map, e]; exact Nat.le_refl _), List.length_map, e, Nat.sub_self, List.set_cons_zero]
  simp
/-- The bytes l stand at the head of block g. -/
def BytesAt (W : World) (g : Nat) (l : List UInt8) : Prop := ∃ (cs : Array Value) (z : Nat), W.heap[g]? = some (.cells cs 5 (z, z + 1)) ∧ l.length ≤ z ∧ ∀ (j : Nat) (hj : j < l.length), cs[j]? = some (.int .u8 (l[j].toNat : Int))
theorem BytesAt.cell {W : World} {g : Nat} {l : List UInt8} (h : BytesAt W g l) (j : Nat) (hj : j < l.length) : W.cell? ⟨g, j, none⟩ = some (.int .u8 (l[j].toNat : Int)) := by
  obtain ⟨cs, z, hk, hz, hc⟩ := h
  simp only [World.cell?, hk]
  exact hc j hj
theorem BytesAt.frozen {W : World} {g : Nat} {l : List UInt8} (h : BytesAt W g l) (j : Nat) (hj : j < l.length) : W.frozen? ⟨g, j, none⟩ = false := by
  obtain ⟨cs, z, hk, hz, hc⟩ := h
  simp [World.frozen?, hk]
  omega
theorem BytesAt.set {W : World} {g : Nat} {l : List UInt8} (h : BytesAt W g l) (i : Nat) (c : UInt8) : BytesAt (W.setCell ⟨g, i, none⟩ (.int .u8 (c.toNat : Int))) g (l.set i c) := by
  obtain ⟨cs, z, hk, hz, hc⟩ := h
  refine ⟨cs.setIfInBounds i (.int .u8 (c.toNat : Int)), z, ?_, by rw [List.length_set]; exact hz, fun j hj => ?_⟩
  · obtain ⟨hlt, hk'⟩ := Array.getElem?_eq_some_iff.1 hk
    show (W.heap.modify g _)[g]? = _
    rw [Array.getElem?_eq_getElem (by rw [Array.size_modify]; exact hlt), Array.getElem_modify_self, hk']
    rfl
  · rw [List.length_set] at hj
    have hjs : j < cs.size := (Array.getElem?_eq_some_iff.1 (hc j hj)).1
    by_cases e : i = j
    · subst e
      rw [Array.getElem?_setIfInBounds_self_of_lt hjs, List.getElem_set_self]
    · rw [Array.getElem?_setIfInBounds_ne e, List.getElem_set_ne e]
      exact hc j hj
theorem BytesAt.new (w : World) (s : ByteArray) : BytesAt (Lib.bytesWorld w 5 s) w.heap.size (L s) := by
  refine ⟨_, _, Lib.bytesWorld_at_new w 5 s, ?_, fun j hj => ?_⟩
  · show s.data.toList.length ≤ _
    simp [Lib.bytesCells]
  · have := Lib.bytesWorld_cell w 5 s j hj
    simp only [World.cell?, Lib.bytesWorld_at_new] at this
    rw [List.getD_eq_getElem?_getD, List.getElem?_eq_getElem hj, Option.getD_some] at this
    exact this
theorem BytesAt.text {W : World} {g : Nat} {l : List UInt8} (h : BytesAt W g l) (n cap : Nat) (hn : l.length = n) : (convert 39 9 (.slice (some ⟨g, 0, none⟩) n cap)).run Tryz.prog W = .ok (.string (M l)) W := by
  subst hn
  exact Lib.run_convert_whole W 39 5 9 Tryz.underlying39 Tryz.underlying5 Tryz.underlying9 g 0 (M l) (fun i hi => by rw [Nat.zero_add]; exact h.cell i hi) cap
theorem low_int : ∀ c : UInt8, ((65 ≤ (c.toNat : Int) ∧ (c.toNat : Int) ≤ 90) ∧ Go.bits .or .u8 (c.toNat : Int) 32 = ((lowC c).toNat : Int)) ∨ (¬ (65 ≤ (c.toNat : Int) ∧ (c.toNat : Int) ≤ 90) ∧ lowC c = c) := by
  have h : ∀ n : Nat, n < 256 → ((65 ≤ ((UInt8.ofNat n).toNat : Int) ∧ ((UInt8.ofNat n).toNat : Int) ≤ 90) ∧ Go.bits .or .u8 ((UInt8.ofNat n).toNat : Int) 32 = ((lowC (UInt8.ofNat n)).toNat : Int)) ∨ (¬ (65 ≤ ((UInt8.ofNat n).toNat : Int) ∧ ((UInt8.ofNat n).toNat : Int) ≤ 90) ∧ lowC (UInt8.ofNat n) = UInt8.ofNat n) := by decide +kernel
  intro c
  have := h c.toNat c.toNat_lt
  rwa [UInt8.ofNat_toNat] at this
set_option maxHeartbeats 1000000 in
set_option maxRecDepth 100000 in
theorem small_calls (s : ByteArray) (w : World) (hs : s.size ≤ 140737488355328) :
    Calls Tryz.prog 25 #[.string s] w fun e w' => e = .returned (.string (M (small (L s)))) ∧ Below w.heap.size w w' := by
  have kc := Lib.run_convert_string_bytes (P := Tryz.prog) w 9 39 5 s Tryz.underlying9 Tryz.underlying39 Tryz.underlying5
  have HN := Aside0.mk (BytesAt.new w s)
  have hbel : Below w.heap.size w (Lib.bytesWorld w 5 s) := ⟨rfl, rfl, rfl, by rw [Lib.bytesWorld_size]; omega, fun k hk => Lib.bytesWorld_at_old w 5 s k hk⟩
  have HBEL := Aside0.mk hbel
  have hz : (L s).length = s.size := rfl
  clear hbel
  generalize Lib.bytesWorld w 5 s = W1 at *
  generalize grownCap w s.size 0 5 = cap at *
  generalize hg : w.heap.size = g at *
  go_enter Tryz.func25, Tryz.ntmps25
  go_wp2
  go_loopg [10] (s.size + 1) (fun kq v10 wr => ∃ (i : Nat), v10 = .int .i64 i ∧ Aside0 (BytesAt wr g (smallTo (L s) i)) ∧ Aside0 (Below g w wr) ∧ Aside0 (i + kq = s.size + 1 ∧ i ≤ s.size))
  case atStart => exact ⟨0, rfl, ⟨by rw [smallTo_zero]; exact HN.out⟩, HBEL, ⟨by omega, by omega⟩⟩
  case round =>
    obtain ⟨i, rfl, HA, HB, HK⟩ := hrel
    clear kc
    cases gk with
    | zero => exact absurd HK.out (by omega)
    | succ k1 =>
      by_cases hi : i < s.size
      · have hl : i < (smallTo (L s) i).length := by rw [smallTo_len]; exact hi
        have hget : (smallTo (L s) i)[i]'hl = (L s)[i]'hi := by
          have := smallTo_get (L s) i hi
          rw [List.getElem?_eq_getElem hl] at this
          exact Option.some.inj this
        have hc := HA.out.cell i hl
        have hf := HA.out.frozen i hl
        have hset := HA.out.set i (lowC ((L s)[i]'hi))
        rw [← smallTo_succ (L s) i hi] at hset
        have hno : lowC ((L s)[i]'hi) = (L s)[i]'hi → smallTo (L s) (i + 1) = smallTo (L s) i := fun e => by
          rw [smallTo_succ (L s) i hi, e, ← hget, List.set_getElem_self]
        rw [hget] at hc
        have hlow := low_int ((L s)[i]'hi)
        generalize (L s)[i]'hi = c at hc hset hno hlow
        have hlt : decide ((i : Int) < (s.size : Int)) = true := decide_eq_true (by omega)
        rcases hlow with ⟨⟨h1, h2⟩, h3⟩ | ⟨h1, h2⟩
        · have HS := Aside0.mk hset
          clear hset hno hget
          generalize (lowC c).toNat = lc at *
          generalize (c.toNat : Int) = d at *
          go_wp2
          go_roundg k1
          case measure => omega
          case rel => exact ⟨i + 1, congrArg (Value.int IntKind.i64) (show (i : Int) + 1 = ((i + 1 : Nat) : Int) from rfl), HS, ⟨HB.out.setCell (p := ⟨g, i, none⟩) (Nat.le_refl _) _⟩, ⟨by have := HK.out; omega, by omega⟩⟩
        · have HS := Aside0.mk (hno h2)
          clear hset hno hget h2
          generalize (c.toNat : Int) = d at *
          go_wp2
          all_goals
            go_roundg k1
            case measure => omega
            case rel => exact ⟨i + 1, congrArg (Value.int IntKind.i64) (show (i : Int) + 1 = ((i + 1 : Nat) : Int) from rfl), ⟨by rw [HS.out]; exact HA.out⟩, HB, ⟨by have := HK.out; omega, by omega⟩⟩
      · have hlt : decide ((i : Int) < (s.size : Int)) = false := decide_eq_false (by omega)
        have ha := HA.out
        rw [smallTo_all (L s) i (by omega)] at ha
        have kb := ha.text s.size cap (by show (List.map lowC (L s)).length = _; rw [List.length_map]; exact hz)
        clear ha
        go_wp2
        go_ret
        exact ⟨rfl, HB.out⟩
end Go.Proofs.YtdecjlkfpbgkgaaGreatDoor.X
namespace Go.Proofs.YtdecjlkfpbgkgaaGreatDoor.X
open Go.RowKit Go.Shelf Go.Proofs.YtdecjlkfpbgkgaaGreatDoorW.PrintWords Go.Proofs.YtdecjlkfpbgkgaaGreatDoor.F
set_option linter.unusedVariables false
set_option linter.unusedSimpArgs false
theorem builderAtF_below {T e : TypeId} {B b : Nat} {p : Value} {bs : List Value} {w w' : World} (h : Lib.BuilderAtF T e B b p bs w) (hb : Below w.heap.size w w') : Lib.BuilderAtF T e B b p bs w' := by
  obtain ⟨hB, v, hk, hown, hne⟩ := h
  exact ⟨hB, v, (hb.block b (Array.getElem?_eq_some_iff.1 hk).1).trans hk, hown.kept (grown_of_below hb none) (by cases v.ownBlock <;> simp), hne⟩
/-- A builder that holds a text. -/
def Bl (B b : Nat) (l : List UInt8) (w : World) : Prop := Lib.IsBuilderF 56 5 B b (Lib.byteCells l) w
theorem Bl.below {B b : Nat} {l : List UInt8} {w w' : World} (h : Bl B b l w) (hb : Below w.heap.size w w') : Bl B b l w' :=
  h.elim (fun x => .inl (builderAtF_below x hb)) (fun x => .inr (builderAtF_below x hb))
theorem builderAtF_box {T e : TypeId} {B n b : Nat} {p : Value} {bs : List Value} {w : World} (h : Lib.BuilderAtF T e B n p bs w) (hb : b < B) (u : Value) : Lib.BuilderAtF T e B n p bs (w.setCell ⟨b, 0, none⟩ u) := by
  obtain ⟨hB, v, hk, ⟨hl, hr⟩, hne⟩ := h
  refine ⟨hB, v, (Below.heap_setCell _ _ _ _ (show n ≠ b by omega)).trans hk, ⟨hl, ?_⟩, hne⟩
  rcases hr with hr | ⟨g, cap, cur, fz, e1, e2, e3, e4⟩
  · exact .inl hr
  · exact .inr ⟨g, cap, cur, fz, e1, e2, (Below.heap_setCell _ _ _ _ (show g ≠ b by omega)).trans e3, e4⟩
theorem Bl.box {B n b : Nat} {l : List UInt8} {w : World} (h : Bl B n l w) (hb : b < B) (u : Value) : Bl B n l (w.setCell ⟨b, 0, none⟩ u) :=
  h.elim (fun x => .inl (builderAtF_box x hb u)) (fun x => .inr (builderAtF_box x hb u))
theorem Bl.new (w : World) : Bl w.heap.size w.heap.size [] (w.alloc (.cells #[.pointer none, .slice none 0 0] 56)) := Lib.IsBuilderF.of (Lib.fresh_isBuilder 56 5 w)
theorem byte_calls (B b : Nat) (l : List UInt8) (c : UInt8) (w : World) (h : Bl B b l w) (hlen : l.length + 1 ≤ 140737488355328) (hBw : B ≤ w.heap.size) :
    Calls Tryz.prog 60 #[.pointer (some ⟨b, 0, none⟩), .int .u8 (c.toNat : Int)] w fun e w' => e = .returned .nilIface ∧ Bl B b (l ++ [c]) w' ∧ Below B w w' := by
  refine (Tryz.Builder_WriteByte_k B b (Lib.byteCells l) (c.toNat : Int) w h (by rw [Lib.byteCells_length]; exact hlen) hBw).mono ?_
  rintro e w' ⟨rfl, h1, h2, _⟩
  refine ⟨rfl, .inr ?_, h2⟩
  have e1 : Lib.byteCells (l ++ [c]) = Lib.byteCells l ++ [.int .u8 (c.toNat : Int)] := by simp [Lib.byteCells]
  rw [e1]
  exact h1
theorem write_calls (B b : Nat) (l : List UInt8) (s : ByteArray) (w : World) (h : Bl B b l w) (hlen : l.length + s.size ≤ 140737488355328) (hBw : B ≤ w.heap.size) :
    Calls Tryz.prog 31 #[.pointer (some ⟨b, 0, none⟩), .string s] w fun e w' => e = .returned (.tuple #[.int .i64 s.size, .nilIface]) ∧ Bl B b (l ++ L s) w' ∧ Below B w w' := by
  refine (Tryz.Builder_WriteString_k B b (Lib.byteCells l) s w h (by rw [Lib.byteCells_length]; exact hlen) hBw).mono ?_
  rintro e w' ⟨rfl, h1, h2, _⟩
  refine ⟨rfl, .inr ?_, h2⟩
  have e1 : Lib.byteCells (l ++ L s) = Lib.byteCells l ++ Lib.strCells s := by simp [Lib.byteCells, Lib.strCells, L]
  rw [e1]
  exact h1
theorem string_calls (B b : Nat) (l : List UInt8) (w : World) (h : Bl B b l w) (hBw : B ≤ w.heap.size) :
    Calls Tryz.prog 33 #[.pointer (some ⟨b, 0, none⟩)] w fun e w' => e = .returned (.string (M l)) ∧ Below B w w' := by
  refine (Tryz.Builder_String_any_k B b l w h hBw).mono ?_
  rintro e w' ⟨rfl, _, h2, _⟩
  exact ⟨rfl, h2⟩
theorem start_set {w wr : World} {b : Nat} {t : TypeId} {u : Value} (hb : Boxed w b t u) (H : Below w.heap.size w wr) : Below w.heap.size (w.setCell ⟨b, 0, none⟩ u) wr := by
  refine ⟨H.os, H.tape, H.output, by rw [Deep.nblk_setCell]; exact H.size, fun k hk => ?_⟩
  rw [H.block k hk]
  by_cases e : k = b
  · subst e; exact hb.trans (hb.set u).symm
  · rw [Below.heap_setCell _ _ _ _ (by exact e)]
/-- Behind a quote: what is quoted, and what stands behind it. -/
def quotedL : Bs → Bs → Option (Bs × Bs)
  | _, [] => none
  | acc, [c] => if c = 34 then some (acc, []) else none
  | acc, c :: d :: u => if c = 34 then some (acc, d :: u) else if c = 92 then (if okV d = true then quotedL (acc ++ [d]) u else none) else if okV c = true then quotedL (acc ++ [c]) (d :: u) else none
theorem q_nil (acc : Bs) : quotedL acc [] = none := by rw [quotedL]
theorem q_step (acc s : Bs) (i : Nat) (h : i < s.length) : quotedL acc (s.drop i) = if s[i] = 34 then some (acc, s.drop (i + 1)) else if s[i] = 92 then (if h2 : i + 1 < s.length then (if okV s[i + 1] = true then quotedL (acc ++ [s[i + 1]]) (s.drop (i + 2)) else none) else none) else if okV s[i] = true then quotedL (acc ++ [s[i]]) (s.drop (i + 1)) else none := by
  rw [List.drop_eq_getElem_cons h]
  by_cases h2 : i + 1 < s.length
  · rw [dif_pos h2, List.drop_eq_getElem_cons h2, quotedL]
  · rw [dif_neg h2, List.drop_eq_nil_of_le (show s.length ≤ i + 1 by omega), q_nil, ite_self, ite_self]
    simp only [quotedL]
/-- What Quoted answers, and what it leaves in the box. -/
def quoV (s : Bs) : Bs × Bool × Bs := match quotedL [] s with | none => ([], false, s) | some p => (p.1, true, p.2)
set_option maxHeartbeats 4000000 in
set_option maxRecDepth 100000 in
theorem quoted_calls (b : Nat) (s : ByteArray) (w : World) (hb : Boxed w b 43 (.string s)) (hs : s.size ≤ 100000000000000) :
    Calls Tryz.prog 50 #[.pointer (some ⟨b, 0, none⟩)] w fun e w' => e = .returned (.tuple #[.string (M (quoV (L s)).1), .bool (quoV (L s)).2.1]) ∧ Below w.heap.size (w.setCell ⟨b, 0, none⟩ (.string (M (quoV (L s)).2.2))) w' := by
  have HB := Lib.hid hb
  have hz : (L s).length = s.size := rfl
  have hlt : b < w.heap.size := hb.lt
  have hbn := Bl.new w
  have HBN := Lib.hid hbn
  have HB0 := Lib.hid ((Below.refl w.heap.size w).alloc (Nat.le_refl _) (.cells #[.pointer none, .slice none 0 0] 56))
  clear hbn hb
  have hu56 := Tryz.underlying56
  go_enter Tryz.func50, Tryz.ntmps50
  go_wp2
  go_loopg [5, 6] (s.size + 1) (fun kq v5 v6 wr => ∃ (i : Nat) (acc : Bs), v5 = .int .i64 i ∧ Aside0 (Bl w.heap.size w.heap.size acc wr) ∧ Aside0 (Below w.heap.size w wr) ∧ Aside0 (quotedL [] (L s) = quotedL acc ((L s).drop i)) ∧ Aside0 (s.size + 1 ≤ i + kq ∧ i ≤ s.size ∧ acc.length ≤ i))
  case atStart => exact ⟨0, [], rfl, ⟨HBN.out⟩, ⟨HB0.out⟩, ⟨rfl⟩, ⟨by omega, by omega, by simp⟩⟩
  case round =>
    obtain ⟨i, acc, rfl, HBl, HBe, HE, HK⟩ := hrel
    have hbx : Boxed wr b 43 (.string s) := (HBe.out.block b hlt).trans HB.out
    have hc := hbx.cell
    have hf := hbx.frozen
    have HBX := Aside0.mk hbx
    clear hbx
    cases gk with
    | zero => exact absurd HK.out (by omega)
    | succ k1 =>
      by_cases hi : i < s.size
      · have hl1 : decide ((i : Int) < (s.size : Int)) = true := decide_eq_true (by omega)
        have hl2 : decide (i < s.size) = true := decide_eq_true (by omega)
        have hst := q_step acc (L s) i hi
        have hval : ∀ d : UInt8, ((s[i]'hi).toNat : Int) = (d.toNat : Int) ↔ (L s)[i]'hi = d := fun d => ⟨fun h => UInt8.toNat_inj.1 (by have : (s[i]'hi) = (L s)[i]'hi := rfl; rw [this] at h; omega), fun h => by rw [← h]; rfl⟩
        by_cases c34 : (L s)[i]'hi = 34
        · have f34 : (((s[i]'hi).toNat : Int) == 34) = true := by rw [beq_iff_eq]; exact (hval 34).2 c34
          rw [if_pos c34] at hst
          have HS := Aside0.mk (show quoV (L s) = (acc, true, (L s).drop (i + 1)) from by unfold quoV; rw [HE.out, hst])
          clear hst hval c34 HE
          go_wp2_with fail
          have hx := HBl.out.box hlt (.string (s.extract (i + 1) s.size))
          refine (string_calls _ _ _ _ hx (by rw [Deep.nblk_setCell]; exact HBe.out.size)).mono ?_
          rintro e w9 ⟨rfl, h9⟩
          have hfin : Below w.heap.size (w.setCell ⟨b, 0, none⟩ (.string (M ((L s).drop (i + 1))))) w9 := by
            have := (below_set HBe.out HB.out (.string (s.extract (i + 1) s.size))).trans h9
            rwa [M_drop] at this
          have HF := Aside0.mk hfin
          clear hfin h9 hx
          go_wp2
          go_ret2
          rw [HS.out]
          exact ⟨rfl, HF.out⟩
        · have f34 : (((s[i]'hi).toNat : Int) == 34) = false := by rw [beq_eq_false_iff_ne]; exact fun h => c34 ((hval 34).1 h)
          rw [if_neg c34] at hst
          by_cases c92 : (L s)[i]'hi = 92
          · have f92 : (((s[i]'hi).toNat : Int) == 92) = true := by rw [beq_iff_eq]; exact (hval 92).2 c92
            rw [if_pos c92] at hst
            by_cases h2 : i + 1 < s.size
            · have hl3 : ((i : Int) + 1 == (s.size : Int)) = false := by rw [beq_eq_false_iff_ne]; omega
              have hl4 : decide ((i : Int) + 1 < (s.size : Int)) = true := decide_eq_true (by omega)
              have hl5 : decide (i + 1 < s.size) = true := decide_eq_true h2
              rw [dif_pos (show i + 1 < (L s).length from h2)] at hst
              have HEND := Aside0.mk (fun (h : ((decide (((s[i + 1]'h2).toNat : Int) < 32) && !(((s[i + 1]'h2).toNat : Int) == 9)) || ((s[i + 1]'h2).toNat : Int) == 127) = true) => (show quoV (L s) = ([], false, L s) from by
                have hk : okV ((L s)[i + 1]'h2) = false := by rw [okV_int]; exact congrArg Bool.not h
                unfold quoV
                rw [HE.out, hst, if_neg (by rw [hk]; decide)]))
              have HGO := Aside0.mk (fun (h : ((decide (((s[i + 1]'h2).toNat : Int) < 32) && !(((s[i + 1]'h2).toNat : Int) == 9)) || ((s[i + 1]'h2).toNat : Int) == 127) = false) => (show quotedL [] (L s) = quotedL (acc ++ [s[i + 1]'h2]) ((L s).drop (i + 2)) from by
                have hk : okV ((L s)[i + 1]'h2) = true := by rw [okV_int]; exact congrArg Bool.not h
                rw [HE.out, hst, if_pos hk]
                rfl))
              clear hst hval c34 c92 HE
              obtain ⟨q1, k1_⟩ : ∃ q, decide (((s[i + 1]'h2).toNat : Int) < 32) = q := ⟨_, rfl⟩
              obtain ⟨q2, k2_⟩ : ∃ q, (((s[i + 1]'h2).toNat : Int) == 9) = q := ⟨_, rfl⟩
              obtain ⟨q3, k3_⟩ : ∃ q, (((s[i + 1]'h2).toNat : Int) == 127) = q := ⟨_, rfl⟩
              have k2b : (((s[i + 1]'h2).toNat : Int) != 9) = !q2 := by unfold bne; rw [k2_]
              rw [k1_, k2_, k3_] at HEND HGO
              go_wp2_with fail
              all_goals first
                | (go_ret2; rw [HEND.out (by simp [*])]; exact ⟨rfl, start_set HB.out HBe.out⟩)
                | (refine (byte_calls _ _ acc (s[i + 1]'h2) wr HBl.out (by have := HK.out; omega) HBe.out.size).mono ?_
                   rintro e w9 ⟨rfl, h8, h9⟩
                   have HBl9 := Aside0.mk h8
                   have HBe9 := Aside0.mk (HBe.out.trans h9)
                   clear h8 h9
                   go_wp2
                   go_roundg k1
                   (case measure => omega)
                   (case rel => exact ⟨i + 2, acc ++ [s[i + 1]'h2], congrArg (Value.int IntKind.i64) (by omega), HBl9, HBe9, ⟨HGO.out (by simp [*])⟩, ⟨by have := HK.out; omega, by omega, by have := HK.out; rw [List.length_append, List.length_singleton]; omega⟩⟩))
            · have hl3 : ((i : Int) + 1 == (s.size : Int)) = true := by rw [beq_iff_eq]; omega
              rw [dif_neg (show ¬ i + 1 < (L s).length from h2)] at hst
              have HS := Aside0.mk (show quoV (L s) = ([], false, L s) from by unfold quoV; rw [HE.out, hst])
              have hM : M (L s) = s := rfl
              clear hst hval c34 c92 HE
              go_wp2
              go_ret2
              rw [HS.out]
              exact ⟨rfl, start_set HB.out HBe.out⟩
          · have f92 : (((s[i]'hi).toNat : Int) == 92) = false := by rw [beq_eq_false_iff_ne]; exact fun h => c92 ((hval 92).1 h)
            rw [if_neg c92] at hst
            have HEND := Aside0.mk (fun (h : ((decide (((s[i]'hi).toNat : Int) < 32) && !(((s[i]'hi).toNat : Int) == 9)) || ((s[i]'hi).toNat : Int) == 127) = true) => (show quoV (L s) = ([], false, L s) from by
              have hk : okV ((L s)[i]'hi) = false := by rw [okV_int]; exact congrArg Bool.not h
              unfold quoV
              rw [HE.out, hst, if_neg (by rw [hk]; decide)]))
            have HGO := Aside0.mk (fun (h : ((decide (((s[i]'hi).toNat : Int) < 32) && !(((s[i]'hi).toNat : Int) == 9)) || ((s[i]'hi).toNat : Int) == 127) = false) => (show quotedL [] (L s) = quotedL (acc ++ [s[i]'hi]) ((L s).drop (i + 1)) from by
              have hk : okV ((L s)[i]'hi) = true := by rw [okV_int]; exact congrArg Bool.not h
              rw [HE.out, hst, if_pos hk]
              rfl))
            clear hst hval c34 c92 HE
            obtain ⟨q1, k1_⟩ : ∃ q, decide (((s[i]'hi).toNat : Int) < 32) = q := ⟨_, rfl⟩
            obtain ⟨q2, k2_⟩ : ∃ q, (((s[i]'hi).toNat : Int) == 9) = q := ⟨_, rfl⟩
            obtain ⟨q3, k3_⟩ : ∃ q, (((s[i]'hi).toNat : Int) == 127) = q := ⟨_, rfl⟩
            have k2b : (((s[i]'hi).toNat : Int) != 9) = !q2 := by unfold bne; rw [k2_]
            rw [k1_, k2_, k3_] at HEND HGO
            go_wp2_with fail
            all_goals first
              | (go_ret2; rw [HEND.out (by simp [*])]; exact ⟨rfl, start_set HB.out HBe.out⟩)
              | (refine (byte_calls _ _ acc (s[i]'hi) wr HBl.out (by have := HK.out; omega) HBe.out.size).mono ?_
                 rintro e w9 ⟨rfl, h8, h9⟩
                 have HBl9 := Aside0.mk h8
                 have HBe9 := Aside0.mk (HBe.out.trans h9)
                 clear h8 h9
                 go_wp2
                 go_roundg k1
                 (case measure => omega)
                 (case rel => exact ⟨i + 1, acc ++ [s[i]'hi], congrArg (Value.int IntKind.i64) (by omega), HBl9, HBe9, ⟨HGO.out (by simp [*])⟩, ⟨by have := HK.out; omega, by omega, by have := HK.out; rw [List.length_append, List.length_singleton]; omega⟩⟩))
      · have hl1 : decide ((i : Int) < (s.size : Int)) = false := decide_eq_false (by omega)
        have hl2 : decide (i < s.size) = false := decide_eq_false (by omega)
        have HS := Aside0.mk (show quoV (L s) = ([], false, L s) from by unfold quoV; rw [HE.out, List.drop_eq_nil_of_le (show (L s).length ≤ i by omega), q_nil])
        clear HE
        go_wp2
        go_ret2
        rw [HS.out]
        exact ⟨rfl, start_set HB.out HBe.out⟩
end Go.Proofs.YtdecjlkfpbgkgaaGreatDoor.X
namespace Go.Proofs.YtdecjlkfpbgkgaaGreatDoor.X
open Go.RowKit Go.Shelf Go.Proofs.YtdecjlkfpbgkgaaGreatDoorW.PrintWords Go.Proofs.YtdecjlkfpbgkgaaGreatDoor.F
set_option linter.unusedVariables false
set_option linter.unusedSimpArgs false
theorem boxed_of {w wr : World} {b : Nat} {t : TypeId} {u v : Value} (hb : Boxed w b t u) (H : Below w.heap.size (w.setCell ⟨b, 0, none⟩ v) wr) : Boxed wr b t v :=
  (H.block b hb.lt).trans (hb.set v)
theorem below_step {w wr w2 : World} {b : Nat} {t : TypeId} {u v v' : Value} (hb : Boxed w b t u) (H : Below w.heap.size (w.setCell ⟨b, 0, none⟩ v) wr) (H2 : Below wr.heap.size (wr.setCell ⟨b, 0, none⟩ v') w2) : Below w.heap.size (w.setCell ⟨b, 0, none⟩ v') w2 := by
  have hs : w.heap.size ≤ wr.heap.size := by have := H.size; rw [Deep.nblk_setCell] at this; exact this
  have hbr := boxed_of hb H
  refine ⟨H2.os.trans H.os, H2.tape.trans H.tape, H2.output.trans H.output, ?_, fun k hk => ?_⟩
  · have := H2.size; rw [Deep.nblk_setCell] at this ⊢; omega
  · rw [H2.block k (by omega)]
    by_cases e : k = b
    · subst e
      exact (hbr.set v').trans (hb.set v').symm
    · rw [Below.heap_setCell _ _ _ _ (by exact e), Below.heap_setCell _ _ _ _ (by exact e), H.block k hk, Below.heap_setCell _ _ _ _ (by exact e)]

/-- What Value answers, and what it leaves in the box. -/
def valueV (s : Bs) : Bs × Bool × Bs := if Lib.hasPrefix s [34] = true then quoV (Lib.trimPrefix s [34]) else (s.takeWhile tokB, !(s.takeWhile tokB).isEmpty, s.dropWhile tokB)
theorem quoted_len : ∀ (n : Nat) (acc s : Bs) {v r : Bs}, s.length ≤ n → quotedL acc s = some (v, r) → r.length < s.length ∧ v.length + r.length ≤ acc.length + s.length
  | 0, acc, s, v, r, hn, h => by
    have : s = [] := List.length_eq_zero_iff.1 (by omega)
    subst this
    rw [q_nil] at h
    cases h
  | n + 1, acc, s, v, r, hn, h => by
    cases s with
    | nil => rw [q_nil] at h; cases h
    | cons c t =>
      have hst := q_step acc (c :: t) 0 (by simp)
      rw [List.drop_zero, h] at hst
      simp only [List.length_cons] at hn ⊢
      split at hst
      · have h2 := Prod.mk.inj (Option.some.inj hst)
        have e1 := congrArg List.length h2.1
        have e2 := congrArg List.length h2.2
        rw [List.length_drop] at e2
        simp only [List.length_cons] at e2
        omega
      · split at hst
        · split at hst
          · split at hst
            · rename_i hl _
              have := quoted_len n _ _ (by rw [List.length_drop]; simp only [List.length_cons]; omega) hst.symm
              rw [List.length_drop] at this
              simp only [List.length_cons, List.length_append, List.length_nil] at this hl
              omega
            · cases hst
          · cases hst
        · split at hst
          · have := quoted_len n _ _ (by rw [List.length_drop]; simp only [List.length_cons]; omega) hst.symm
            rw [List.length_drop] at this
            simp only [List.length_cons, List.length_append, List.length_nil] at this
            omega
          · cases hst
theorem quoV_len (s : Bs) : (quoV s).2.2.length ≤ s.length ∧ (quoV s).1.length ≤ s.length := by
  unfold quoV
  cases h : quotedL [] s with
  | none => simp
  | some p =>
    have := quoted_len s.length [] s (v := p.1) (r := p.2) (Nat.le_refl _) h
    simp only [List.length_nil] at this ⊢
    omega
theorem tp_le (l p : Bs) : (Lib.trimPrefix l p).length ≤ l.length := by
  unfold Lib.trimPrefix
  split
  · rw [List.length_drop]; omega
  · exact Nat.le_refl _
theorem valueV_len (s : Bs) : (valueV s).2.2.length ≤ s.length ∧ (valueV s).1.length ≤ s.length := by
  unfold valueV
  split
  · have h1 := quoV_len (Lib.trimPrefix s [34])
    have h2 := tp_le s [34]
    omega
  · exact ⟨(List.dropWhile_suffix tokB).length_le, (List.takeWhile_prefix tokB).length_le⟩
set_option maxHeartbeats 4000000 in
set_option maxRecDepth 100000 in
theorem value_calls (b : Nat) (s : ByteArray) (w : World) (hb : Boxed w b 43 (.string s)) (hs : s.size ≤ 100000000000000) :
    Calls Tryz.prog 38 #[.pointer (some ⟨b, 0, none⟩)] w fun e w' => e = .returned (.tuple #[.string (M (valueV (L s)).1), .bool (valueV (L s)).2.1]) ∧ Below w.heap.size (w.setCell ⟨b, 0, none⟩ (.string (M (valueV (L s)).2.2))) w' := by
  have HB := Lib.hid hb
  have hz : (L s).length = s.size := rfl
  have htp := tp_le (L s) [34]
  clear hb
  obtain ⟨q, hq⟩ : ∃ x, Lib.hasPrefix (L s) [34] = x := ⟨_, rfl⟩
  obtain ⟨l1, hl1⟩ : ∃ x, Lib.trimPrefix (L s) [34] = x := ⟨_, rfl⟩
  rw [hl1] at htp
  have HQ := Lib.hid hq
  have HL := Lib.hid hl1
  clear hq hl1
  go_enter Tryz.func38, Tryz.ntmps38
  go_wp2_with fail
  refine (take_calls b s ⟨#[34]⟩ _ HB.out).mono ?_
  rintro e w1 ⟨rfl, h1⟩
  rw [show Lib.hasPrefix (L s) (L ⟨#[34]⟩) = q from HQ.out]
  rw [show Lib.trimPrefix (L s) (L ⟨#[34]⟩) = l1 from HL.out] at h1
  have b1 := boxed_of HB.out h1
  have B1 := Aside0.mk b1
  have H1 := Aside0.mk h1
  clear b1 h1
  cases q with
  | true =>
    have HV := Lib.hid (show valueV (L s) = quoV l1 from by unfold valueV; rw [if_pos HQ.out, HL.out])
    go_wp2_with fail
    refine (quoted_calls b (M l1) w1 B1.out (by show l1.length ≤ _; omega)).mono ?_
    rintro e w2 ⟨rfl, h2⟩
    have H2 := Aside0.mk (below_step HB.out H1.out h2)
    clear h2
    go_wp2
    go_ret2
    rw [HV.out]
    exact ⟨rfl, H2.out⟩
  | false =>
    have e1 : l1 = L s := by have := HL.out; unfold Lib.trimPrefix at this; rw [HQ.out] at this; exact this.symm
    subst e1
    have HV := Lib.hid (show valueV (L s) = ((L s).takeWhile tokB, !((L s).takeWhile tokB).isEmpty, (L s).dropWhile tokB) from by unfold valueV; rw [if_neg (by rw [HQ.out]; decide)])
    go_wp2_with fail
    refine (token_calls b s w1 B1.out (by omega)).mono ?_
    rintro e w2 ⟨rfl, rfl⟩
    have H2 := Aside0.mk (below_step (v' := .string (M ((L s).dropWhile tokB))) HB.out H1.out (Below.refl _ _))
    obtain ⟨m1, m2, m3⟩ := M_empty ((L s).takeWhile tokB)
    go_wp2
    go_ret2
    rw [HV.out]
    exact ⟨rfl, H2.out⟩
end Go.Proofs.YtdecjlkfpbgkgaaGreatDoor.X
