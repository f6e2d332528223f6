/- glyph.among, by hand: it tells whether a number is in one of some ranges. glyph.Char, Start and Part, by hand: what a code point may be, as three functions of a number. What the library's package-level variables hold, carried over the walks; and the library's functions that are called, as plain functions. DERIVED: THE SHELF's CONTRACTS AT THIS DUMP, IN PLAIN WORDS (tools/lay-plain.mjs out of 'YtldancekpigkaaaDoorShelfU.lean', which tools/lay-shelf.mjs wrote): THE SAME DECLARATIONS UNDER THE SAME NAMES: 'import', 'namespace', 'open', 'def', 'theorem' AND NOTHING ELSE: no command of the shelf's: FOR A HAND-IN. Each laying: the table of numbers ('.._ren') and one theorem, a field a fact of the dump's own or the kernel's comparison; each contract: ONE APPLICATION. glyph.Check, by hand: a text may be if it is UTF-8 and each of its code points may be. locator.letter, digit and scheme, by hand: may a text be a scheme? -/
import Derived.Test.YtldancekpigkaaaDoorProg
import Derived.Below
import Derived.Deep.Draws
import Derived.WalkKit
import Derived.KernelRfl
import Derived.Deep.LoopGhost
import Derived.Deep.QuietTactic
import Derived.BigQuiet
import Derived.Outline
import Derived.Laws.Rows
import Derived.Lib.Hide
import Derived.Test.YtldancekpigkaaaDoorShelf
import Derived.Test.YtldancekpigkaaaDoorWWords
import Derived.Laws.RangeAny
import Derived.Lib.OthersKept
import Derived.Shelf.Small.Utf8
import Derived.Shelf.Small.Strs
import Derived.Shelf.Small.Wraps
import Derived.Shelf.Unicode.DecodeSlow
import Derived.Lib.ConvBytes
import Derived.Laws.BytesArg
import Derived.Deep.RegionWith
import Derived.RegionTactic
import Derived.ChangeAlike
namespace Go.Proofs.YtldancekpigkaaaDoor.X
open Go.RowKit

def inR (c : Int) (r : Int × Int) : Bool := decide (r.1 ≤ c) && decide (c ≤ r.2)
def amongB (c : Int) (l : List (Int × Int)) : Bool := l.any (inR c)

theorem amongB_drop (c : Int) (l : List (Int × Int)) (k : Nat) (h : k < l.length) : amongB c (l.drop k) = (inR c (l.getD k (0, 0)) || amongB c (l.drop (k + 1))) := by
  unfold amongB
  rw [List.drop_eq_getElem_cons h, List.any_cons, List.getD_eq_getElem?_getD, List.getElem?_eq_getElem h]
  rfl

set_option maxHeartbeats 1000000 in
set_option maxRecDepth 100000 in
theorem among_calls (c : Int) (g cap : Nat) (l : List (Int × Int)) (w : World) (hl : l.length ≤ 100) (hg : g < w.heap.size)
    (hc0 : ∀ k, k < l.length → w.cell? ⟨g, k * 2, none⟩ = some (.int .i64 (l.getD k (0, 0)).1)) (hc1 : ∀ k, k < l.length → w.cell? ⟨g, k * 2 + 1, none⟩ = some (.int .i64 (l.getD k (0, 0)).2)) :
    Calls Tryd.prog 61 #[.int .i64 c, .slice (some ⟨g, 0, none⟩) l.length cap] w fun e w' => e = .returned (.bool (amongB c l)) ∧ Below w.heap.size w w' := by
  have H0 := Lib.hid hc0
  have H1 := Lib.hid hc1
  clear hc0 hc1
  have HB := Lib.hid (Below.refl w.heap.size w)
  go_enter Tryd.func61, Tryd.ntmps61
  go_wp2
  go_loopw [9] (fun i wr => ∃ k : Nat, k ≤ l.length ∧ i = .int .i64 k ∧ amongB c l = amongB c (l.drop k) ∧ Below w.heap.size w wr) (fun i _ => l.length - (intOf i).toNat)
  case atStart => exact ⟨0, Nat.zero_le _, rfl, by simp, HB.out⟩
  case round =>
    obtain ⟨k, hk, rfl, he, hb⟩ := hrel
    have HE := Lib.hid he
    have HBB := Lib.hid hb
    clear he hb
    by_cases hlt : k < l.length
    · have c0 := (HBB.out.cell (p := ⟨g, k * 2, none⟩) hg).trans (H0.out k hlt)
      have c1 := (HBB.out.cell (p := ⟨g, k * 2 + 1, none⟩) hg).trans (H1.out k hlt)
      have hd := amongB_drop c l k hlt
      obtain ⟨lo, hlo⟩ : ∃ x, (l.getD k (0, 0)).1 = x := ⟨_, rfl⟩
      obtain ⟨hi, hhi⟩ : ∃ x, (l.getD k (0, 0)).2 = x := ⟨_, rfl⟩
      rw [hlo] at c0
      rw [hhi] at c1
      have hr : inR c (l.getD k (0, 0)) = (decide (lo ≤ c) && decide (c ≤ hi)) := by unfold inR; rw [hlo, hhi]
      have HD := Lib.hid hd
      have HR := Lib.hid hr
      clear hd hr hlo hhi
      by_cases h1 : lo ≤ c
      · by_cases h2 : c ≤ hi
        · go_wp2
          go_ret
          exact ⟨by rw [HE.out, HD.out, HR.out]; simp [h1, h2], (HBB.out.alloc (by exact HBB.out.size) _)⟩
        · go_wp2
          go_roundw
          case rel => exact ⟨k + 1, by omega, by go_num, by rw [HE.out, HD.out, HR.out]; simp [h2], HBB.out.alloc (by exact HBB.out.size) _⟩
          case measure => simp [intOf]; omega
      · go_wp2
        go_roundw
        case rel => exact ⟨k + 1, by omega, by go_num, by rw [HE.out, HD.out, HR.out]; simp [h1], HBB.out.alloc (by exact HBB.out.size) _⟩
        case measure => simp [intOf]; omega
    · obtain rfl : k = l.length := by omega
      go_wp2
      go_ret
      exact ⟨by rw [HE.out]; simp [amongB], HBB.out⟩
end Go.Proofs.YtldancekpigkaaaDoor.X
namespace Go.Proofs.YtldancekpigkaaaDoor.X
open Go.RowKit

def charL : List (Int × Int) := [(9, 10), (13, 13), (32, 55295), (57344, 65533), (65536, 1114111)]
def charB (c : Int) : Bool := amongB c charL
theorem cells_pairs (w : World) (g : Nat) (l : List (Int × Int)) (cs : Array Value) (T : TypeId) (hs : cs.toList = l.flatMap fun p => [.int .i64 p.1, .int .i64 p.2]) (hg : w.heap.size = g) (k : Nat) (hk : k < l.length) :
    (w.alloc (.cells cs T)).cell? ⟨g, k * 2, none⟩ = some (.int .i64 (l.getD k (0, 0)).1) ∧ (w.alloc (.cells cs T)).cell? ⟨g, k * 2 + 1, none⟩ = some (.int .i64 (l.getD k (0, 0)).2) := by
  subst hg
  have H : ∀ (l : List (Int × Int)) (k : Nat), k < l.length → (l.flatMap fun p => [Value.int .i64 p.1, .int .i64 p.2])[k * 2]? = some (.int .i64 (l.getD k (0, 0)).1) ∧ (l.flatMap fun p => [Value.int .i64 p.1, .int .i64 p.2])[k * 2 + 1]? = some (.int .i64 (l.getD k (0, 0)).2) := by
    intro l
    induction l with
    | nil => intro k hk; simp at hk
    | cons p l ih =>
      intro k hk
      cases k with
      | zero => simp
      | succ k =>
        have := ih k (by simpa using hk)
        simpa [Nat.succ_mul] using this
  have := H l k hk
  rw [← hs] at this
  simp only [Array.getElem?_toList] at this
  have e : ∀ j v, cs[j]? = some v → (w.alloc (.cells cs T)).cell? ⟨w.heap.size, j, none⟩ = some v := by
    intro j v h
    rw [World.cell?_alloc_at _ _ _ _ rfl]
    exact h
  exact ⟨e _ _ this.1, e _ _ this.2⟩

theorem ret_bool {a b : Bool} (h : a = b) : Ending.returned (.bool a) = .returned (.bool b) := by rw [h]
theorem among_lit (c : Int) (l : List (Int × Int)) (n : Nat) (hn : l.length = n) (h100 : n ≤ 100) (cs : Array Value) (hs : cs.toList = l.flatMap fun p => [.int .i64 p.1, .int .i64 p.2]) (w : World) :
    Calls Tryd.prog 61 #[.int .i64 c, .slice (some ⟨w.heap.size, 0, none⟩) n n] (w.alloc (.cells cs 74)) fun e w' => e = .returned (.bool (amongB c l)) ∧ Below w.heap.size w w' := by
  subst hn
  refine (among_calls c w.heap.size l.length l (w.alloc (.cells cs 74)) h100 (by simp) (fun k hk => (cells_pairs w _ l cs 74 hs rfl k hk).1) (fun k hk => (cells_pairs w _ l cs 74 hs rfl k hk).2)).mono ?_
  rintro e w' ⟨rfl, hb⟩
  exact ⟨rfl, ((Below.refl _ w).alloc (Nat.le_refl _) _).trans (hb.mono (by simp))⟩

set_option maxHeartbeats 1000000 in
set_option maxRecDepth 100000 in
theorem char_calls (c : Int) (w : World) : Calls Tryd.prog 43 #[.int .i64 c] w fun e w' => e = .returned (.bool (charB c)) ∧ Below w.heap.size w w' := by
  go_enter Tryd.func43, Tryd.ntmps43
  go_wp2_with fail
  refine (among_lit c charL 5 rfl (by omega) _ rfl w).mono ?_
  rintro e w' ⟨rfl, hb⟩
  go_wp2
  go_ret
  exact ⟨rfl, hb⟩

end Go.Proofs.YtldancekpigkaaaDoor.X
namespace Go.Proofs.YtldancekpigkaaaDoor.X
open Go.RowKit Go.Shelf Go.Proofs.YtldancekpigkaaaDoorW.PrintWords

abbrev L (s : ByteArray) : List UInt8 := s.data.toList
abbrev M (l : List UInt8) : ByteArray := ⟨l.toArray⟩

structure Glob (w : World) : Prop where
  tabs : Lib.Utf8Tabs 0 1 w
theorem Glob.below {w w' : World} (h : Glob w) (hb : Below w.heap.size w w') : Glob w' := ⟨Utf8Tabs_below h.tabs hb⟩

theorem below_drewN (w : World) (n : Nat) : Below w.heap.size w (w.drewN n) := by
  induction n with
  | zero => exact Below.refl _ _
  | succ n ih => rw [← World.drew_drewN]; exact ih.drew

theorem xx_ne_nil (l : List UInt8) : (l != []) = !l.isEmpty := by cases l <;> rfl
theorem xx_eq_nil (l : List UInt8) : (l == []) = l.isEmpty := by cases l <;> rfl

/-! strings.IndexByte. -/
def strings_IndexByte.f (a0 : ByteArray) (a1 : Int) : Option Int := some (Lib.indexByte a0.data.toList a1.toNat.toUInt8)
theorem strings_IndexByte.calls (a0 : ByteArray) (a1 : Int) (r : Int) (w : World) (h : strings_IndexByte.f a0 a1 = some r) :
    Calls Tryd.prog 46 #[.string a0, .int .u8 a1] w fun e w' => e = .returned (.int .i64 r) ∧ Below w.heap.size w w' := by
  cases h
  refine (Tryd.strings_IndexByte a0 a1 w).mono ?_
  rintro e w' ⟨rfl, rfl⟩
  exact ⟨rfl, Below.refl _ _⟩

/-! strings.Trim, the cutset of ASCII bytes. -/
def strings_Trim.f (a0 a1 : ByteArray) : Option ByteArray := if a0.size ≤ 9223372036854775807 ∧ (a1.data.toList.all fun c => decide (c.toNat < 128)) = true ∧ a1.size ≤ 1000 then some (M (Lib.trimS a0.data.toList a1.data.toList)) else none
theorem strings_Trim.calls (a0 a1 : ByteArray) (r : ByteArray) (w : World) (h : strings_Trim.f a0 a1 = some r) :
    Calls Tryd.prog 63 #[.string a0, .string a1] w fun e w' => e = .returned (.string r) ∧ Below w.heap.size w w' := by
  unfold strings_Trim.f at h
  split at h
  · rename_i hs
    cases h
    exact Any.strings_Trim_laid Tryd.lays160 (by kernel_rfl) a0 a1 w hs.1 (by have := hs.2.2; omega) (ascii_of_all hs.2.1)
  · cases h

/-! strings.LastIndex of one byte. -/
def strings_LastIndex.f (a0 a1 : ByteArray) : Option Int := if h : a1.size = 1 ∧ a0.size < 4611686018427387904 then some (Lib.lastIndexByte a0 ((a1[0]'(by omega)).toNat : Int)) else none
theorem strings_LastIndex.calls (a0 a1 : ByteArray) (r : Int) (w : World) (h : strings_LastIndex.f a0 a1 = some r) :
    Calls Tryd.prog 57 #[.string a0, .string a1] w fun e w' => e = .returned (.int .i64 r) ∧ Below w.heap.size w w' := by
  unfold strings_LastIndex.f at h
  split at h
  · rename_i hs
    cases h
    refine (Tryd.strings_LastIndex_one a0 a1 hs.1 hs.2 w).mono ?_
    rintro e w' ⟨rfl, rfl⟩
    exact ⟨rfl, Below.refl _ _⟩
  · cases h

/-! strings.HasPrefix, CutPrefix, TrimPrefix. -/
def strings_HasPrefix.f (a0 a1 : ByteArray) : Option Bool := some (Lib.hasPrefix a0.data.toList a1.data.toList)
theorem strings_HasPrefix.calls (a0 a1 : ByteArray) (r : Bool) (w : World) (h : strings_HasPrefix.f a0 a1 = some r) :
    Calls Tryd.prog 40 #[.string a0, .string a1] w fun e w' => e = .returned (.bool r) ∧ Below w.heap.size w w' := by
  cases h
  refine (Tryd.strings_HasPrefix a0 a1 w).mono ?_
  rintro e w' ⟨rfl, rfl⟩
  exact ⟨rfl, Below.refl _ _⟩
def strings_CutPrefix.f (a0 a1 : ByteArray) : Option (ByteArray × Bool) := some (M (Lib.trimPrefix a0.data.toList a1.data.toList), Lib.hasPrefix a0.data.toList a1.data.toList)
theorem strings_CutPrefix.calls (a0 a1 : ByteArray) (r1 : ByteArray) (r2 : Bool) (w : World) (h : strings_CutPrefix.f a0 a1 = some (r1, r2)) :
    Calls Tryd.prog 41 #[.string a0, .string a1] w fun e w' => e = .returned (.tuple #[.string r1, .bool r2]) ∧ Below w.heap.size w w' := by
  cases h
  refine (Tryd.strings_CutPrefix a0 a1 w).mono ?_
  rintro e w' ⟨rfl, rfl⟩
  exact ⟨rfl, Below.refl _ _⟩
def strings_TrimPrefix.f (a0 a1 : ByteArray) : Option ByteArray := some (M (Lib.trimPrefix a0.data.toList a1.data.toList))
theorem strings_TrimPrefix.calls (a0 a1 : ByteArray) (r : ByteArray) (w : World) (h : strings_TrimPrefix.f a0 a1 = some r) :
    Calls Tryd.prog 34 #[.string a0, .string a1] w fun e w' => e = .returned (.string r) ∧ Below w.heap.size w w' := by
  cases h
  refine (Tryd.strings_TrimPrefix a0 a1 w).mono ?_
  rintro e w' ⟨rfl, rfl⟩
  exact ⟨rfl, Below.refl _ _⟩
end Go.Proofs.YtldancekpigkaaaDoor.X
namespace Go.Proofs
open Go.Shelf
def Tryd.lays260_ren : Go.Shelf.Ren := ⟨fun | 260 => 83 | n => n, fun | 9 => 9 | 21 => 21 | 3 => 3 | 4 => 4 | 5 => 5 | 119 => 68 | 0 => 0 | 46 => 72 | 139 => 71 | 138 => 70 | n => n, fun | 3 => 0 | 4 => 1 | n => n⟩
theorem Tryd.lays260 : Go.Proofs.Lays.n260 Tryd.prog Tryd.lays260_ren := {
  mixed := by kernel_rfl
  f260 := Tryd.func83.trans (congrArg some (by kernel_rfl))
  t0 := Tryd.underlying0
  a0 := Tryd.isAgg0
  z0 := Tryd.sizeOf0
  v0 := Tryd.zeroValue0
  t3 := Tryd.underlying3
  a3 := Tryd.isAgg3
  z3 := Tryd.sizeOf3
  v3 := Tryd.zeroValue3
  t4 := Tryd.underlying4
  a4 := Tryd.isAgg4
  z4 := Tryd.sizeOf4
  v4 := Tryd.zeroValue4
  t5 := Tryd.underlying5
  a5 := Tryd.isAgg5
  z5 := Tryd.sizeOf5
  v5 := Tryd.zeroValue5
  t9 := Tryd.underlying9
  a9 := Tryd.isAgg9
  z9 := Tryd.sizeOf9
  v9 := Tryd.zeroValue9
  t21 := Tryd.underlying21
  a21 := Tryd.isAgg21
  z21 := Tryd.sizeOf21
  v21 := Tryd.zeroValue21
  t46 := Tryd.underlying72
  a46 := Tryd.isAgg72
  z46 := Tryd.sizeOf72
  v46 := Tryd.zeroValue72
  t119 := Tryd.underlying68
  a119 := Tryd.isAgg68
  z119 := Tryd.sizeOf68
  t138 := Tryd.underlying70
  a138 := Tryd.isAgg70
  z138 := Tryd.sizeOf70
  v138 := Tryd.zeroValue70
  t139 := Tryd.underlying71
  a139 := Tryd.isAgg71
  z139 := Tryd.sizeOf71
  v139 := Tryd.zeroValue71
  g3 := by kernel_rfl
  g4 := by kernel_rfl }
open Go.RowKit Go.Lib in
theorem Tryd.utf8_decodeRuneInStringSlow (s : ByteArray) (w : World) (hT : Lib.Utf8Tabs 0 1 w) :
    Calls Tryd.prog 83 #[.string s] w fun e w' => e = .returned (.tuple #[.int .i32 (Lib.decodeGo s).1, .int .i64 (Lib.decodeGo s).2]) ∧ Below w.heap.size w w' := Any.utf8_decodeRuneInStringSlow Tryd.lays260 s w hT
end Go.Proofs
namespace Go.Proofs.YtldancekpigkaaaDoor.X
open Go.RowKit Go.Shelf Go.Proofs.YtldancekpigkaaaDoorW.PrintWords

/-- May each code point from a place on be? -/
def runesOk (s : ByteArray) : Nat → Nat → Bool
  | 0, _ => true
  | fuel + 1, pos => if pos < s.size then charB (Utf8.decode s pos).1 && runesOk s fuel (pos + (Utf8.decode s pos).2) else true
def checkR (s : ByteArray) : Int := if Lib.validD s.data.toList && runesOk s s.size 0 then 0 else 50

theorem width_pos (s : ByteArray) (pos : Nat) (h : pos < s.size) : 1 ≤ (Utf8.decode s pos).2 := by
  by_cases ha : (s[pos]'h).toNat < 128
  · rw [decode_ascii s pos h ha]
    exact Nat.le_refl _
  · exact (decode_high s pos h (by omega)).2
theorem runesOk_end (s : ByteArray) (fuel pos : Nat) (h : ¬ pos < s.size) : runesOk s fuel pos = true := by
  cases fuel with
  | zero => rfl
  | succ f => simp [runesOk, h]

theorem ret_int {k : IntKind} {a b : Int} (h : a = b) : Ending.returned (.int k a) = .returned (.int k b) := by rw [h]
set_option maxHeartbeats 1000000 in
set_option maxRecDepth 100000 in
theorem check_calls (s : ByteArray) (w : World) (hG : Glob w) (hs : s.size ≤ 9223372036854775807) :
    Calls Tryd.prog 23 #[.string s] w fun e w' => e = .returned (.int .i64 (checkR s)) ∧ Below w.heap.size w w' := by
  have HG := Lib.hid hG
  clear hG
  obtain ⟨v, hv⟩ : ∃ v, Lib.validD s.data.toList = v := ⟨_, rfl⟩
  have hV := Tryd.utf8_ValidString s w hs HG.out.tabs
  rw [hv] at hV
  cases v with
  | false =>
    have HE := Lib.hid (show checkR s = 50 from by unfold checkR; rw [hv]; rfl)
    clear hv
    go_enter Tryd.func23, Tryd.ntmps23
    go_wp2_with fail
    refine hV.mono ?_
    rintro e w' ⟨rfl, hb⟩
    go_wp2
    go_ret
    exact ⟨ret_int HE.out.symm, hb⟩
  | true =>
    have HE := Lib.hid (show checkR s = if runesOk s s.size 0 then 0 else 50 from by unfold checkR; rw [hv]; rfl)
    clear hv
    go_enter Tryd.func23, Tryd.ntmps23
    go_wp2_with fail
    refine hV.mono ?_
    rintro e w1 ⟨rfl, hb1⟩
    clear hV
    have HB1 := Lib.hid hb1
    clear hb1
    go_wp2
    go_loopw [4] (fun _ wr => ∃ (pos fuel : Nat), wr.heap[w1.heap.size]? = some (.stringIter s pos) ∧ Aside0 (Below w1.heap.size w1 wr) ∧ Aside0 (runesOk s s.size 0 = runesOk s fuel pos) ∧ s.size ≤ pos + fuel) (fun _ wr => s.size - wr.iterPos w1.heap.size)
    case atStart => exact ⟨0, s.size, World.iter_heap w1 s 0, ⟨(Below.refl _ w1).alloc (Nat.le_refl _) _⟩, ⟨rfl⟩, by omega⟩
    case round =>
      obtain ⟨pos, fuel, hk, hnx, hE, hf⟩ := hrel
      have hnp : wr.iterPos w1.heap.size = pos := by simp [World.iterPos, hk]
      have HNP := Aside0.mk hnp
      clear hnp
      by_cases hp : pos < s.size
      · obtain ⟨fuel, rfl⟩ : ∃ m, fuel = m + 1 := ⟨fuel - 1, by omega⟩
        have hnext : ∀ ty, (Instr.next (.pointer (some ⟨w1.heap.size, 0, none⟩)) true ty).run Tryd.prog wr = _ := fun ty => Lib.run_next_any_at wr w1.heap.size s pos ty hk hp
        have hk1 := Lib.iterAt_heap wr w1.heap.size s pos (pos + (Utf8.decode s pos).2) hk
        have hnx1 : Below w1.heap.size w1 (wr.iterAt w1.heap.size s (pos + (Utf8.decode s pos).2)) := Lib.below_iterAt hnx.out (Nat.le_refl _) s _
        have hw := width_pos s pos hp
        have hd := decode_le s pos
        have he : runesOk s (fuel + 1) pos = (charB (Utf8.decode s pos).1 && runesOk s fuel (pos + (Utf8.decode s pos).2)) := by simp [runesOk, hp]
        generalize wr.iterAt w1.heap.size s (pos + (Utf8.decode s pos).2) = W1 at hnext hk1 hnx1
        generalize (Utf8.decode s pos).1 = d at *
        generalize (Utf8.decode s pos).2 = n at *
        have hHN := Aside0.mk hnx1
        have HE2 := Aside0.mk (hE.out.trans he)
        clear hnx1 he hE hnx
        obtain ⟨b, hb⟩ : ∃ b, charB d = b := ⟨_, rfl⟩
        have HBB := Aside0.mk hb
        clear hb
        go_wp2_with fail
        refine (char_calls d _).mono ?_
        rintro e W2 ⟨rfl, hb⟩
        rw [HBB.out]
        have hlt1 : w1.heap.size < W1.heap.size := (Array.getElem?_eq_some_iff.1 hk1).1
        have hk2 : W2.heap[w1.heap.size]? = some (.stringIter s (pos + n)) := (hb.block _ hlt1).trans hk1
        have HB2 := Aside0.mk (hHN.out.trans (hb.mono (Nat.le_of_lt hlt1)))
        clear hb
        cases b with
        | true =>
          go_wp2
          go_roundw
          case rel => exact ⟨pos + n, fuel, hk2, HB2, ⟨by rw [HE2.out, HBB.out]; rfl⟩, by omega⟩
          case measure => simp only [World.iterPos, hk2, hk]; omega
        | false =>
          go_wp2
          go_ret
          exact ⟨ret_int (by rw [HE.out, HE2.out, HBB.out]; rfl), HB1.out.trans (HB2.out.mono HB1.out.size)⟩
      · have hnext : ∀ ty, (Instr.next (.pointer (some ⟨w1.heap.size, 0, none⟩)) true ty).run Tryd.prog wr = _ := fun ty => Lib.run_next_end_at wr w1.heap.size s pos ty hk hp
        go_wp2
        go_ret
        exact ⟨ret_int (by rw [HE.out, hE.out, runesOk_end s fuel pos hp]; rfl), HB1.out.trans (hnx.out.mono HB1.out.size)⟩

def glyph_Check.f (a0 : ByteArray) : Option Int := if a0.size ≤ 9223372036854775807 then some (checkR a0) else none
theorem glyph_Check.calls (a0 : ByteArray) (r : Int) (w : World) (hG : Glob w) (h : glyph_Check.f a0 = some r) :
    Calls Tryd.prog 23 #[.string a0] w fun e w' => e = .returned (.int .i64 r) ∧ Below w.heap.size w w' := by
  unfold glyph_Check.f at h
  split at h
  · rename_i hs
    cases h
    exact check_calls a0 w hG hs
  · cases h
end Go.Proofs.YtldancekpigkaaaDoor.X
namespace Go.Proofs.YtldancekpigkaaaDoor.X
open Go.RowKit Go.Shelf Go.Proofs.YtldancekpigkaaaDoorW.PrintWords

attribute [local go_sem] Oper.semAt_some

def letterI (d : Int) : Bool := decide (97 ≤ Go.bits .or .u8 d 32) && decide (Go.bits .or .u8 d 32 ≤ 122)
def digitI (d : Int) : Bool := decide (48 ≤ d) && decide (d ≤ 57)
def plusI (d : Int) : Bool := decide (0 ≤ Lib.indexByte [43, 45, 46] d.toNat.toUInt8)

set_option maxHeartbeats 1000000 in
set_option maxRecDepth 100000 in
theorem letter_calls (d : Int) (w : World) : Calls Tryd.prog 44 #[.int .u8 d] w fun e w' => e = .returned (.bool (letterI d)) ∧ w' = w := by
  by_cases h : 97 ≤ Go.bits .or .u8 d 32
  · have h1 : decide (97 ≤ Go.bits .or .u8 d 32) = true := decide_eq_true h
    have HE := Lib.hid (show letterI d = decide (Go.bits .or .u8 d 32 ≤ 122) from by unfold letterI; rw [h1]; rfl)
    clear h
    go_enter Tryd.func44, Tryd.ntmps44
    go_wp2
    go_ret
    exact ⟨by rw [HE.out]; rfl, rfl⟩
  · have h1 : decide (97 ≤ Go.bits .or .u8 d 32) = false := decide_eq_false h
    have HE := Lib.hid (show letterI d = false from by unfold letterI; rw [h1]; rfl)
    clear h
    go_enter Tryd.func44, Tryd.ntmps44
    go_wp2
    go_ret
    exact ⟨by rw [HE.out]; rfl, rfl⟩
set_option maxHeartbeats 1000000 in
set_option maxRecDepth 100000 in
theorem digit_calls (d : Int) (w : World) : Calls Tryd.prog 45 #[.int .u8 d] w fun e w' => e = .returned (.bool (digitI d)) ∧ w' = w := by
  by_cases h : 48 ≤ d
  · have h1 : decide (48 ≤ d) = true := decide_eq_true h
    have HE := Lib.hid (show digitI d = decide (d ≤ 57) from by unfold digitI; rw [h1]; rfl)
    clear h
    go_enter Tryd.func45, Tryd.ntmps45
    go_wp2
    go_ret
    exact ⟨by rw [HE.out]; rfl, rfl⟩
  · have h1 : decide (48 ≤ d) = false := decide_eq_false h
    have HE := Lib.hid (show digitI d = false from by unfold digitI; rw [h1]; rfl)
    clear h
    go_enter Tryd.func45, Tryd.ntmps45
    go_wp2
    go_ret
    exact ⟨by rw [HE.out]; rfl, rfl⟩
def schemeB : Bool → List UInt8 → Bool
  | _, [] => true
  | f, c :: t => (letterI (c.toNat : Int) || (!f && (digitI (c.toNat : Int) || plusI (c.toNat : Int)))) && schemeB false t
theorem scheme_step (l : List UInt8) (i : Nat) (h : i < l.length) : schemeB (decide (i = 0)) (l.drop i) = ((letterI ((l.getD i 0).toNat : Int) || (!(decide (i = 0)) && (digitI ((l.getD i 0).toNat : Int) || plusI ((l.getD i 0).toNat : Int)))) && schemeB (decide (i + 1 = 0)) (l.drop (i + 1))) := by
  rw [List.drop_eq_getElem_cons h, List.getD_eq_getElem?_getD, List.getElem?_eq_getElem h, Option.getD_some, schemeB]
  rfl
set_option maxHeartbeats 2000000 in
set_option maxRecDepth 100000 in
theorem scheme_calls (s : ByteArray) (w : World) (hs : s.size ≤ 140737488355328) :
    Calls Tryd.prog 24 #[.string s] w fun e w' => e = .returned (.bool (schemeB true (L s) && !(L s).isEmpty)) ∧ Below w.heap.size w w' := by
  have kc := Lib.run_convert_string_bytes (P := Tryd.prog) w 9 36 5 s Tryd.underlying9 Tryd.underlying36 Tryd.underlying5
  have hcell := fun j hj => Lib.bytesWorld_cell w 5 s j hj
  have hbel : Below w.heap.size w (Lib.bytesWorld w 5 s) := ⟨rfl, rfl, rfl, by rw [Lib.bytesWorld_size]; omega, fun k hk => Lib.bytesWorld_at_old w 5 s k hk⟩
  have HBEL := Aside0.mk hbel
  clear hbel
  generalize Lib.bytesWorld w 5 s = W1 at *
  generalize grownCap w s.size 0 5 = cap at *
  go_enter Tryd.func24, Tryd.ntmps24
  go_wp2
  go_loopg [8] (s.size + 1) (fun kq v8 wr => ∃ (i : Nat), v8 = .int .i64 i ∧ wr = W1 ∧ Aside0 (schemeB true (L s) = schemeB (decide (i = 0)) ((L s).drop i)) ∧ Aside0 (i + kq = s.size + 1 ∧ i ≤ s.size))
  case atStart => exact ⟨0, rfl, rfl, ⟨rfl⟩, ⟨by omega, by omega⟩⟩
  case round =>
    obtain ⟨i, rfl, rfl, HE, HK⟩ := hrel
    cases gk with
    | zero => exact absurd HK.out (by omega)
    | succ k1 =>
      by_cases hi : i < s.size
      · have hc := hcell i hi
        have hst := scheme_step (L s) i hi
        change wr.cell? _ = some (Value.int .u8 (((L s).getD i 0).toNat : Int)) at hc
        clear hcell kc
        generalize (L s).getD i 0 = c at hc hst
        generalize (c.toNat : Int) = d at hc hst
        have HS := Aside0.mk (show wrap64 ((i : Int) + 1) = ((i + 1 : Nat) : Int) by unfold wrap64; omega)
        obtain ⟨b0, hb0⟩ : ∃ b, letterI d = b := ⟨_, rfl⟩
        obtain ⟨b1, hb1⟩ : ∃ b, decide (i = 0) = b := ⟨_, rfl⟩
        obtain ⟨b2, hb2⟩ : ∃ b, digitI d = b := ⟨_, rfl⟩
        obtain ⟨b3, hb3⟩ : ∃ b, plusI d = b := ⟨_, rfl⟩
        rw [hb0, hb1, hb2, hb3] at hst
        have hb1' : ((i : Int) == 0) = b1 := by rw [← hb1, Bool.eq_iff_iff, beq_iff_eq, decide_eq_true_iff]; omega
        have hb3' : decide ((Lib.indexByte [43, 45, 46] d.toNat.toUInt8) < 0) = !b3 := by
          rw [← hb3]; unfold plusI; rw [← decide_not]
          exact decide_eq_decide.2 (by omega)
        have HE1 := Aside0.mk (show schemeB true (L s) = ((b0 || (!b1 && (b2 || b3))) && schemeB (decide (i + 1 = 0)) ((L s).drop (i + 1))) from HE.out.trans (by rw [hb1]; exact hst))
        have LC := letter_calls d wr
        have DC := digit_calls d wr
        have IC := Tryd.strings_IndexByte ⟨#[43, 45, 46]⟩ d wr
        rw [hb0] at LC
        rw [hb2] at DC
        have hlt : decide ((i : Int) < (s.size : Int)) = true := decide_eq_true (by omega)
        clear hb0 hb1 hb2 hb3 hst
        cases b0 with
        | true =>
          go_wp2_with (first | (go_at_call 44; refine LC.mono ?_; rintro e w9 ⟨rfl, rfl⟩) | (go_at_call 45; refine DC.mono ?_; rintro e w9 ⟨rfl, rfl⟩) | (go_at_call 46; refine IC.mono ?_; rintro e w9 ⟨rfl, rfl⟩))
          go_roundg k1
          case measure => omega
          case rel => exact ⟨i + 1, congrArg (Value.int IntKind.i64) (show (i : Int) + 1 = ((i + 1 : Nat) : Int) from rfl), rfl, ⟨HE1.out.trans rfl⟩, ⟨by have := HK.out; omega, by omega⟩⟩
        | false =>
          cases b1 with
          | true =>
            go_wp2_with (first | (go_at_call 44; refine LC.mono ?_; rintro e w9 ⟨rfl, rfl⟩) | (go_at_call 45; refine DC.mono ?_; rintro e w9 ⟨rfl, rfl⟩) | (go_at_call 46; refine IC.mono ?_; rintro e w9 ⟨rfl, rfl⟩))
            go_ret
            exact ⟨by rw [HE1.out]; rfl, HBEL.out⟩
          | false =>
            cases b2 with
            | true =>
              go_wp2_with (first | (go_at_call 44; refine LC.mono ?_; rintro e w9 ⟨rfl, rfl⟩) | (go_at_call 45; refine DC.mono ?_; rintro e w9 ⟨rfl, rfl⟩) | (go_at_call 46; refine IC.mono ?_; rintro e w9 ⟨rfl, rfl⟩))
              go_roundg k1
              case measure => omega
              case rel => exact ⟨i + 1, congrArg (Value.int IntKind.i64) (show (i : Int) + 1 = ((i + 1 : Nat) : Int) from rfl), rfl, ⟨HE1.out.trans rfl⟩, ⟨by have := HK.out; omega, by omega⟩⟩
            | false =>
              cases b3 with
              | true =>
                go_wp2_with (first | (go_at_call 44; refine LC.mono ?_; rintro e w9 ⟨rfl, rfl⟩) | (go_at_call 45; refine DC.mono ?_; rintro e w9 ⟨rfl, rfl⟩) | (go_at_call 46; refine IC.mono ?_; rintro e w9 ⟨rfl, rfl⟩))
                go_roundg k1
                case measure => omega
                case rel => exact ⟨i + 1, congrArg (Value.int IntKind.i64) (show (i : Int) + 1 = ((i + 1 : Nat) : Int) from rfl), rfl, ⟨HE1.out.trans rfl⟩, ⟨by have := HK.out; omega, by omega⟩⟩
              | false =>
                go_wp2_with (first | (go_at_call 44; refine LC.mono ?_; rintro e w9 ⟨rfl, rfl⟩) | (go_at_call 45; refine DC.mono ?_; rintro e w9 ⟨rfl, rfl⟩) | (go_at_call 46; refine IC.mono ?_; rintro e w9 ⟨rfl, rfl⟩))
                go_ret
                exact ⟨by rw [HE1.out]; rfl, HBEL.out⟩
      · have hlt : decide ((i : Int) < (s.size : Int)) = false := decide_eq_false (by omega)
        have HE2 := Aside0.mk (show schemeB true (L s) = true from by rw [HE.out, List.drop_eq_nil_of_le (show (L s).length ≤ i from by have : (L s).length = s.size := rfl; omega)]; rfl)
        have hle : s.toList.isEmpty = (L s).isEmpty := by rw [show s.toList = L s from Lib.toList_data s]
        obtain ⟨b, hb⟩ : ∃ b, (L s).isEmpty = b := ⟨_, rfl⟩
        rw [hb] at hle
        have HB := Aside0.mk hb
        clear hb
        go_wp2
        go_ret
        exact ⟨by rw [HE2.out, HB.out]; rfl, HBEL.out⟩
def locator_scheme.f (a0 : ByteArray) : Option Bool := if a0.size ≤ 140737488355328 then some (schemeB true (L a0) && !(L a0).isEmpty) else none
theorem locator_scheme.calls (a0 : ByteArray) (r : Bool) (w : World) (h : locator_scheme.f a0 = some r) :
    Calls Tryd.prog 24 #[.string a0] w fun e w' => e = .returned (.bool r) ∧ Below w.heap.size w w' := by
  unfold locator_scheme.f at h
  split at h
  · rename_i hs
    cases h
    exact scheme_calls a0 w hs
  · cases h
end Go.Proofs.YtldancekpigkaaaDoor.X
