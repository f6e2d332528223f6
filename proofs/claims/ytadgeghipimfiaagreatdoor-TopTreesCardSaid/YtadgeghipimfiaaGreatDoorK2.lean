/- Part of the proof of topTrees_card, merged out of smaller texts. Conditions: the listed variables of the library hold what the program's text lays. -/
import Derived.Test.YtadgeghipimfiaaGreatDoorK1
import Derived.Shelf.Strings.SlTrimAscii
import Derived.WalkKit
import Derived.Tactics
import Derived.KernelRfl
import Derived.Lib.Hide
import Derived.Deep.Heap
import Derived.RangeFuncBox
import Derived.Lib.ConvBytes
import Derived.Laws.BytesArg
import Derived.Deep.RegionWith
import Derived.RegionTactic
import Derived.ChangeAlike
import Derived.Deep.QuietTactic
import Derived.Lib.SlBytesRow
import Derived.Lib.FrozenHead
import Derived.BigQuiet
import Derived.Tactics2
import Derived.Laws.Pointers
import Derived.LoopN
import Derived.OwnWalk
import Derived.Deep.AppendLies
import Derived.Deep.RegionLaw
import Derived.Shelf.Strings.CaseAny
import Derived.StillTailTactics
import Derived.Defers
import Derived.Laws.LoneSync
import Derived.RegionCalls
import Derived.Maps.Own
import Derived.WideMake
section
namespace Go.Proofs.YtadgeghipimfiaaGreatDoor.U
open Go.RowKit Go.Lib Go.Proofs.YtadgeghipimfiaaGreatDoorW.PrintWords
abbrev Bs := List UInt8
def B (l : Bs) : ByteArray := ByteArray.mk (Array.mk l)
theorem B_eta (s : ByteArray) : ∃ l, s = B l := ⟨s.data.toList, by cases s with | mk d => cases d; rfl⟩
theorem B_size (l : Bs) : (B l).size = l.length := rfl
theorem B_data (l : Bs) : (B l).data.toList = l := rfl
theorem toList_data (s : ByteArray) : s.toList = s.data.toList := by
 have h : ∀ (n i : Nat) (r : Bs), s.size - i = n → ByteArray.toList.loop s i r = r.reverse ++ s.data.toList.drop i := by
  intro n
  induction n with
  | zero =>
    intro i r hn
    unfold ByteArray.toList.loop
    rw [if_neg (by omega), List.drop_eq_nil_of_le (by show s.data.size ≤ i; have : s.size = s.data.size := rfl; omega)]
    simp
  | succ n ih =>
    intro i r hn
    have hi : i < s.data.toList.length := by show i < s.data.size; have : s.size = s.data.size := rfl; omega
    unfold ByteArray.toList.loop
    rw [if_pos (by omega), ih (i + 1) _ (by omega), List.drop_eq_getElem_cons hi]
    have hg : s.get! i = s.data.toList[i] := by
     show s.data[i]! = _
     rw [getElem!_pos s.data i (by simpa using hi)]
     simp
    rw [hg]
    simp
 have := h (s.size - 0) 0 [] rfl
 simpa [ByteArray.toList] using this
theorem B_toList (l : Bs) : (B l).toList = l := by rw [toList_data]; rfl
theorem B_extract (l : Bs) (a b : Nat) : (B l).extract a b = B ((l.take b).drop a) := by
 have : ((B l).extract a b).data = (B ((l.take b).drop a)).data := by
  rw [ByteArray.data_extract]
  apply Array.ext'
  rw [Array.toList_extract, List.extract_eq_drop_take']
  rfl
 cases h1 : (B l).extract a b
 rw [h1] at this
 simp only at this
 rw [this]
theorem B_append (a b : Bs) : B a ++ B b = B (a ++ b) := by
 have : (B a ++ B b).data = (B (a ++ b)).data := by
  rw [ByteArray.data_append]
  apply Array.ext'
  simp [B]
 cases h1 : B a ++ B b
 rw [h1] at this
 simp only at this
 rw [this]
theorem B_bt (l : Bs) (i : Nat) (h : i < l.length) : bt (B l) (i : Int) = (l[i].toNat : Int) := by
 unfold bt
 rw [dif_pos (by simpa [B_size] using h)]
 rfl
theorem B_get (l : Bs) (i : Nat) : ((B l).get! i).toNat = (l.getD i 0).toNat := by
 show (((Array.mk l)[i]!) : UInt8).toNat = _
 by_cases h : i < l.length
 ·rw [getElem!_pos (Array.mk l) i (by simpa using h), List.getD_eq_getElem?_getD, List.getElem?_eq_getElem h]; rfl
 ·rw [getElem!_neg (Array.mk l) i (by simpa using h), List.getD_eq_getElem?_getD, List.getElem?_eq_none (by omega)]; rfl
theorem w64 {x : Int} (h0 : -9223372036854775808 ≤ x) (h1 : x < 9223372036854775808) : wrap64 x = x := by unfold wrap64; omega
end Go.Proofs.YtadgeghipimfiaaGreatDoor.U
namespace Go.Proofs.YtadgeghipimfiaaGreatDoor.X
open Go.RowKit Go.Shelf Go.Proofs.YtadgeghipimfiaaGreatDoorW.PrintWords
abbrev L (s : ByteArray) : List UInt8 := s.data.toList
abbrev M (l : List UInt8) : ByteArray := ⟨l.toArray⟩
end Go.Proofs.YtadgeghipimfiaaGreatDoor.X
namespace Go.Proofs.YtadgeghipimfiaaGreatDoor.F
open Go.RowKit Go.Lib Go.Proofs.YtadgeghipimfiaaGreatDoorW.PrintWords Go.Proofs.YtadgeghipimfiaaGreatDoor.X
abbrev Bs := List UInt8
end Go.Proofs.YtadgeghipimfiaaGreatDoor.F
namespace Go.Proofs.YtadgeghipimfiaaGreatDoor.X
open Go.RowKit Go.Shelf Go.Proofs.YtadgeghipimfiaaGreatDoorW.PrintWords
theorem M_extract (s : ByteArray) (a b : Nat) : s.extract a b = M (((L s).take b).drop a) := by
 have : (s.extract a b).data = (M (((L s).take b).drop a)).data := by
  rw [ByteArray.data_extract]
  apply Array.ext'
  rw [Array.toList_extract, List.extract_eq_drop_take']
 cases h1 : s.extract a b
 rw [h1] at this
 simp only at this
 rw [this]
theorem M_take (s : ByteArray) (i : Nat) : s.extract 0 i = M ((L s).take i) := by rw [M_extract, List.drop_zero]
theorem M_drop (s : ByteArray) (i : Nat) : s.extract i s.size = M ((L s).drop i) := by rw [M_extract, List.take_of_length_le (show (L s).length ≤ s.size from Nat.le_refl _)]
theorem M_toList (l : List UInt8) : (M l).toList = l := U.B_toList l
theorem M_empty (l : List UInt8) : (M l).toList.isEmpty = l.isEmpty ∧ ((M l).toList == ([] : List UInt8)) = l.isEmpty ∧ ((M l).toList != ([] : List UInt8)) = !l.isEmpty := by
 rw [M_toList]
 cases l <;> exact ⟨rfl, rfl, rfl⟩
end Go.Proofs.YtadgeghipimfiaaGreatDoor.X
namespace Go.Proofs.YtadgeghipimfiaaGreatDoor.X
open Go.RowKit Go.Shelf Go.Proofs.YtadgeghipimfiaaGreatDoorW.PrintWords
def BytesAt (W : World) (g : Nat) (l : List UInt8) : Prop := ∃ (cs : Array Value) (z : Nat), W.heap[g]? = some (.cells cs 5 (z, z + 1)) ∧ l.length ≤ z ∧ ∀ (j : Nat) (hj : j < l.length), cs[j]? = some (.int .u8 (l[j].toNat : Int))
theorem BytesAt.cell {W : World} {g : Nat} {l : List UInt8} (h : BytesAt W g l) (j : Nat) (hj : j < l.length) : W.cell? ⟨g, j, none⟩ = some (.int .u8 (l[j].toNat : Int)) := by
 obtain ⟨cs, z, hk, hz, hc⟩ := h
 simp only [World.cell?, hk]
 exact hc j hj
theorem BytesAt.new (w : World) (s : ByteArray) : BytesAt (Lib.bytesWorld w 5 s) w.heap.size (L s) := by
 refine ⟨_, _, Lib.bytesWorld_at_new w 5 s, ?_, fun j hj => ?_⟩
 ·show s.data.toList.length ≤ _
  simp [Lib.bytesCells]
 ·have := Lib.bytesWorld_cell w 5 s j hj
  simp only [World.cell?, Lib.bytesWorld_at_new] at this
  rw [List.getD_eq_getElem?_getD, List.getElem?_eq_getElem hj, Option.getD_some] at this
  exact this
end Go.Proofs.YtadgeghipimfiaaGreatDoor.X
namespace Go.Proofs.YtadgeghipimfiaaGreatDoor.X
open Go.RowKit Go.Shelf Go.Proofs.YtadgeghipimfiaaGreatDoorW.PrintWords Go.Proofs.YtadgeghipimfiaaGreatDoor.F
set_option linter.unusedVariables false
set_option linter.unusedSimpArgs false
theorem builderAtF_below {T e : TypeId} {B b : Nat} {p : Value} {bs : List Value} {w w' : World} (h : Lib.BuilderAtF T e B b p bs w) (hb : Below w.heap.size w w') : Lib.BuilderAtF T e B b p bs w' := by
 obtain ⟨hB, v, hk, hown, hne⟩ := h
 exact ⟨hB, v, (hb.block b (Array.getElem?_eq_some_iff.1 hk).1).trans hk, hown.kept (grown_of_below hb none) (by cases v.ownBlock <;> simp), hne⟩
def Bl (B b : Nat) (l : List UInt8) (w : World) : Prop := Lib.IsBuilderF 44 5 B b (Lib.byteCells l) w
theorem Bl.below {B b : Nat} {l : List UInt8} {w w' : World} (h : Bl B b l w) (hb : Below w.heap.size w w') : Bl B b l w' :=
 h.elim (fun x => .inl (builderAtF_below x hb)) (fun x => .inr (builderAtF_below x hb))
theorem Bl.new (w : World) : Bl w.heap.size w.heap.size [] (w.alloc (.cells #[.pointer none, .slice none 0 0] 44)) := Lib.IsBuilderF.of (Lib.fresh_isBuilder 44 5 w)
theorem write_calls (B b : Nat) (l : List UInt8) (s : ByteArray) (w : World) (h : Bl B b l w) (hlen : l.length + s.size ≤ 140737488355328) (hBw : B ≤ w.heap.size) :
  Calls Tryz.prog 45 #[.pointer (some ⟨b, 0, none⟩), .string s] w fun e w' => e = .returned (.tuple #[.int .i64 s.size, .nilIface]) ∧ Bl B b (l ++ L s) w' ∧ Below B w w' := by
 refine (Tryz.Builder_WriteString_k B b (Lib.byteCells l) s w h (by rw [Lib.byteCells_length]; exact hlen) hBw).mono ?_
 rintro e w' ⟨rfl, h1, h2, _⟩
 refine ⟨rfl, .inr ?_, h2⟩
 have e1 : Lib.byteCells (l ++ L s) = Lib.byteCells l ++ Lib.strCells s := by simp [Lib.byteCells, Lib.strCells, L]
 rw [e1]
 exact h1
theorem string_calls (B b : Nat) (l : List UInt8) (w : World) (h : Bl B b l w) (hBw : B ≤ w.heap.size) :
  Calls Tryz.prog 15 #[.pointer (some ⟨b, 0, none⟩)] w fun e w' => e = .returned (.string (M l)) ∧ Below B w w' := by
 refine (Tryz.Builder_String_any_k B b l w h hBw).mono ?_
 rintro e w' ⟨rfl, _, h2, _⟩
 exact ⟨rfl, h2⟩
end Go.Proofs.YtadgeghipimfiaaGreatDoor.X
namespace Go.Proofs.YtadgeghipimfiaaGreatDoor.X
open Go.RowKit Go.Shelf Go.Proofs.YtadgeghipimfiaaGreatDoorW.PrintWords Go.Proofs.YtadgeghipimfiaaGreatDoor.F
set_option linter.unusedVariables false
set_option linter.unusedSimpArgs false
end Go.Proofs.YtadgeghipimfiaaGreatDoor.X
end
section
namespace Go.Proofs.YtadgeghipimfiaaGreatDoor.X
open Go.RowKit Go.Shelf
set_option linter.unusedVariables false
structure Off (S : Nat → Prop) (w w' : World) : Prop where
 os : w'.os = w.os
 tape : w'.tape = w.tape
 output : w'.output = w.output
 size : w.heap.size ≤ w'.heap.size
 block : ∀ k, k < w.heap.size → ¬ S k → w'.heap[k]? = w.heap[k]?
theorem Off.refl (S : Nat → Prop) (w : World) : Off S w w := ⟨rfl, rfl, rfl, Nat.le_refl _, fun _ _ _ => rfl⟩
theorem Off.trans {S : Nat → Prop} {w w1 w2 : World} (h : Off S w w1) (h2 : Off S w1 w2) : Off S w w2 :=
 ⟨h2.os.trans h.os, h2.tape.trans h.tape, h2.output.trans h.output, Nat.le_trans h.size h2.size, fun k hk hn => (h2.block k (Nat.lt_of_lt_of_le hk h.size) hn).trans (h.block k hk hn)⟩
theorem Off.mono {S T : Nat → Prop} {w w' : World} (h : Off S w w') (hT : ∀ k, k < w.heap.size → S k → T k) : Off T w w' :=
 ⟨h.os, h.tape, h.output, h.size, fun k hk hn => h.block k hk fun hs => hn (hT k hk hs)⟩
theorem Off.of_below {S : Nat → Prop} {w w' : World} (h : Below w.heap.size w w') : Off S w w' := ⟨h.os, h.tape, h.output, h.size, fun k hk _ => h.block k hk⟩
theorem Off.set {S : Nat → Prop} {w w' : World} (h : Off S w w') (a : Addr) (v : Value) (ha : S a.block ∨ w.heap.size ≤ a.block) : Off S w (w'.setCell a v) := by
 refine ⟨h.os, h.tape, h.output, by rw [Deep.nblk_setCell]; exact h.size, fun k hk hn => ?_⟩
 have hne : k ≠ a.block := by rcases ha with ha | ha; · rintro rfl; exact hn ha
                              ·omega
 rw [Below.heap_setCell _ _ _ _ hne]
 exact h.block k hk hn
def Blk (W : World) (b : Nat) (cs : Array Value) (t : TypeId) : Prop := W.heap[b]? = some (.cells cs t (0, 0))
theorem Blk.cell {W : World} {b : Nat} {cs : Array Value} {t : TypeId} (h : Blk W b cs t) (i : Nat) : W.cell? ⟨b, i, none⟩ = cs[i]? := by simp [World.cell?, show W.heap[b]? = _ from h]
theorem Blk.frozen {W : World} {b : Nat} {cs : Array Value} {t : TypeId} (h : Blk W b cs t) (i : Nat) : W.frozen? ⟨b, i, none⟩ = false := by simp [World.frozen?, show W.heap[b]? = _ from h]
theorem Blk.lt {W : World} {b : Nat} {cs : Array Value} {t : TypeId} (h : Blk W b cs t) : b < W.heap.size := (Array.getElem?_eq_some_iff.1 h).1
theorem Blk.off {S : Nat → Prop} {W W' : World} {b : Nat} {cs : Array Value} {t : TypeId} (h : Blk W b cs t) (ho : Off S W W') (hn : ¬ S b) : Blk W' b cs t := (ho.block b h.lt hn).trans h
theorem Blk.below {W W' : World} {b B : Nat} {cs : Array Value} {t : TypeId} (h : Blk W b cs t) (hb : Below B W W') (hl : b < B) : Blk W' b cs t := (hb.block b hl).trans h
theorem Blk.new (W : World) (cs : Array Value) (t : TypeId) : Blk (W.alloc (.cells cs t)) W.heap.size cs t := World.alloc_heap_new _ _
theorem Blk.set {W : World} {b : Nat} {cs : Array Value} {t : TypeId} (h : Blk W b cs t) (i : Nat) (y : Value) : Blk (W.setCell ⟨b, i, none⟩ y) b (cs.setIfInBounds i y) t := by
 obtain ⟨hlt, hk⟩ := Array.getElem?_eq_some_iff.1 h
 show (W.heap.modify b _)[b]? = _
 rw [Array.getElem?_eq_getElem (by rw [Array.size_modify]; exact hlt), Array.getElem_modify_self, hk]
 rfl
theorem Blk.eq {W : World} {b : Nat} {cs cs' : Array Value} {t t' : TypeId} (h : Blk W b cs t) (h' : Blk W b cs' t') : cs = cs' ∧ t = t' := by
 have := h.symm.trans h'
 injection this with this
 injection this with h1 h2 _
 exact ⟨h1, h2⟩
end Go.Proofs.YtadgeghipimfiaaGreatDoor.X
end
section
namespace Go.Proofs.YtadgeghipimfiaaGreatDoor.X
open Go.RowKit Go.Shelf Go.Proofs.YtadgeghipimfiaaGreatDoorW.PrintWords
def runesOk (s : ByteArray) : Nat → Nat → Bool
 | 0, _ => true
 | fuel + 1, pos => if pos < s.size then charB (Utf8.decode s pos).1 && runesOk s fuel (pos + (Utf8.decode s pos).2) else true
def checkR (s : ByteArray) : Int := if Lib.validD s.data.toList && runesOk s s.size 0 then 0 else 50
theorem width_pos (s : ByteArray) (pos : Nat) (h : pos < s.size) : 1 ≤ (Utf8.decode s pos).2 := by
 by_cases ha : (s[pos]'h).toNat < 128
 ·rw [decode_ascii s pos h ha]
  exact Nat.le_refl _
 ·exact (decode_high s pos h (by omega)).2
theorem runesOk_end (s : ByteArray) (fuel pos : Nat) (h : ¬ pos < s.size) : runesOk s fuel pos = true := by
 cases fuel with
 | zero => rfl
 | succ f => simp [runesOk, h]
theorem ret_int {k : IntKind} {a b : Int} (h : a = b) : Ending.returned (.int k a) = .returned (.int k b) := by rw [h]
set_option maxHeartbeats 1000000 in
set_option maxRecDepth 100000 in
theorem check_calls (s : ByteArray) (w : World) (hG : Glob w) (hs : s.size ≤ 9223372036854775807) :
  Calls Tryz.prog 9 #[.string s] w fun e w' => e = .returned (.int .i64 (checkR s)) ∧ Below w.heap.size w w' := by
 have HG := Lib.hid hG
 clear hG
 obtain ⟨v, hv⟩ : ∃ v, Lib.validD s.data.toList = v := ⟨_, rfl⟩
 have hV := Tryz.utf8_ValidString s w hs HG.out.tabs
 rw [hv] at hV
 cases v with
 | false =>
   have HE := Lib.hid (show checkR s = 50 from by unfold checkR; rw [hv]; rfl)
   clear hv
   go_enter Tryz.func9, Tryz.ntmps9
   go_wp2_with fail
   refine hV.mono ?_
   rintro e w' ⟨rfl, hb⟩
   go_wp2
   go_ret
   exact ⟨ret_int HE.out.symm, hb⟩
 | true =>
   have HE := Lib.hid (show checkR s = if runesOk s s.size 0 then 0 else 50 from by unfold checkR; rw [hv]; rfl)
   clear hv
   go_enter Tryz.func9, Tryz.ntmps9
   go_wp2_with fail
   refine hV.mono ?_
   rintro e w1 ⟨rfl, hb1⟩
   clear hV
   have HB1 := Lib.hid hb1
   clear hb1
   go_wp2
   go_loopw [4] (fun _ wr => ∃ (pos fuel : Nat), wr.heap[w1.heap.size]? = some (.stringIter s pos) ∧ Aside0 (Below w1.heap.size w1 wr) ∧ Aside0 (runesOk s s.size 0 = runesOk s fuel pos) ∧ s.size ≤ pos + fuel) (fun _ wr => s.size - wr.iterPos w1.heap.size)
   case atStart => exact ⟨0, s.size, World.iter_heap w1 s 0, ⟨(Below.refl _ w1).alloc (Nat.le_refl _) _⟩, ⟨rfl⟩, by omega⟩
   case round =>
    obtain ⟨pos, fuel, hk, hnx, hE, hf⟩ := hrel
    have hnp : wr.iterPos w1.heap.size = pos := by simp [World.iterPos, hk]
    have HNP := Aside0.mk hnp
    clear hnp
    by_cases hp : pos < s.size
    ·obtain ⟨fuel, rfl⟩ : ∃ m, fuel = m + 1 := ⟨fuel - 1, by omega⟩
     have hnext : ∀ ty, (Instr.next (.pointer (some ⟨w1.heap.size, 0, none⟩)) true ty).run Tryz.prog wr = _ := fun ty => Lib.run_next_any_at wr w1.heap.size s pos ty hk hp
     have hk1 := Lib.iterAt_heap wr w1.heap.size s pos (pos + (Utf8.decode s pos).2) hk
     have hnx1 : Below w1.heap.size w1 (wr.iterAt w1.heap.size s (pos + (Utf8.decode s pos).2)) := Lib.below_iterAt hnx.out (Nat.le_refl _) s _
     have hw := width_pos s pos hp
     have hd := decode_le s pos
     have he : runesOk s (fuel + 1) pos = (charB (Utf8.decode s pos).1 && runesOk s fuel (pos + (Utf8.decode s pos).2)) := by simp [runesOk, hp]
     generalize wr.iterAt w1.heap.size s (pos + (Utf8.decode s pos).2) = W1 at hnext hk1 hnx1
     generalize (Utf8.decode s pos).1 = d at *
     generalize (Utf8.decode s pos).2 = n at *
     have hHN := Aside0.mk hnx1
     have HE2 := Aside0.mk (hE.out.trans he)
     clear hnx1 he hE hnx
     obtain ⟨b, hb⟩ : ∃ b, charB d = b := ⟨_, rfl⟩
     have HBB := Aside0.mk hb
     clear hb
     go_wp2_with fail
     refine (char_calls d _).mono ?_
     rintro e W2 ⟨rfl, hb⟩
     rw [HBB.out]
     have hlt1 : w1.heap.size < W1.heap.size := (Array.getElem?_eq_some_iff.1 hk1).1
     have hk2 : W2.heap[w1.heap.size]? = some (.stringIter s (pos + n)) := (hb.block _ hlt1).trans hk1
     have HB2 := Aside0.mk (hHN.out.trans (hb.mono (Nat.le_of_lt hlt1)))
     clear hb
     cases b with
     | true =>
       go_wp2
       go_roundw
       case rel => exact ⟨pos + n, fuel, hk2, HB2, ⟨by rw [HE2.out, HBB.out]; rfl⟩, by omega⟩
       case measure => simp only [World.iterPos, hk2, hk]; omega
     | false =>
       go_wp2
       go_ret
       exact ⟨ret_int (by rw [HE.out, HE2.out, HBB.out]; rfl), HB1.out.trans (HB2.out.mono HB1.out.size)⟩
    ·have hnext : ∀ ty, (Instr.next (.pointer (some ⟨w1.heap.size, 0, none⟩)) true ty).run Tryz.prog wr = _ := fun ty => Lib.run_next_end_at wr w1.heap.size s pos ty hk hp
     go_wp2
     go_ret
     exact ⟨ret_int (by rw [HE.out, hE.out, runesOk_end s fuel pos hp]; rfl), HB1.out.trans (hnx.out.mono HB1.out.size)⟩
end Go.Proofs.YtadgeghipimfiaaGreatDoor.X
end
section
namespace Go.Proofs.YtadgeghipimfiaaGreatDoor.X
open Go.RowKit Go.Shelf Go.Proofs.YtadgeghipimfiaaGreatDoorW.PrintWords Go.Proofs.YtadgeghipimfiaaGreatDoor.F
set_option linter.unusedVariables false
set_option linter.unusedSimpArgs false
def wsS : Bs := [32, 9, 10, 13]
theorem skip_calls (s : ByteArray) (w : World) :
  Calls Tryz.prog 43 #[.string s] w fun e w' => e = .returned (.string (M (Lib.trimLeftS (L s) wsS))) ∧ Below w.heap.size w w' := by
 go_enter Tryz.func43, Tryz.ntmps43
 go_wp2_with fail
 refine (Any.strings_TrimLeft_laid Tryz.lays161 (by kernel_rfl) s ⟨#[32, 9, 10, 13]⟩ w (by decide) (ascii_of_all (by decide))).mono ?_
 rintro e w1 ⟨rfl, h1⟩
 go_wp2
 go_ret
 exact ⟨rfl, h1⟩
abbrev Scan (W : World) (b : Nat) (s : ByteArray) (o : Value) : Prop := Blk W b #[.string s, o] 74
abbrev Only (b : Nat) (w w' : World) : Prop := Off (fun k => k = b) w w'
theorem take_calls (b : Nat) (s t : ByteArray) (o : Value) (w : World) (hb : Scan w b s o) :
  Calls Tryz.prog 58 #[.pointer (some ⟨b, 0, none⟩), .string t] w fun e w' => e = .returned (.bool (Lib.hasPrefix (L s) (L t))) ∧ Only b w w' ∧ Scan w' b (M (Lib.trimPrefix (L s) (L t))) o := by
 have hc : w.cell? ⟨b, 0, none⟩ = some (.string s) := hb.cell 0
 have hf := hb.frozen 0
 have HB := Lib.hid hb
 clear hb
 obtain ⟨v, hv⟩ : ∃ v, Lib.hasPrefix (L s) (L t) = v := ⟨_, rfl⟩
 have HV := Lib.hid hv
 go_enter Tryz.func58, Tryz.ntmps58
 go_wp2_with fail
 refine (Tryz.strings_CutPrefix s t w).mono ?_
 rintro e w1 ⟨rfl, rfl⟩
 rw [hv]
 clear hv
 cases v with
 | true =>
   go_wp2
   go_ret
   refine ⟨by rw [HV.out]; rfl, (Off.refl _ _).set _ _ (.inl rfl), ?_⟩
   exact HB.out.set 0 _
 | false =>
   go_wp2
   go_ret
   refine ⟨by rw [HV.out]; rfl, Off.refl _ _, ?_⟩
   have : M (Lib.trimPrefix (L s) (L t)) = s := by
    unfold Lib.trimPrefix
    rw [HV.out]
    exact (U.B_eta s).elim fun l hl => by subst hl; rfl
   rw [this]
   exact HB.out
theorem space_calls (b : Nat) (s : ByteArray) (o : Value) (w : World) (hb : Scan w b s o) :
  Calls Tryz.prog 94 #[.pointer (some ⟨b, 0, none⟩)] w fun e w' => e = .returned (.bool (decide ((Lib.trimLeftS (L s) wsS).length < s.size))) ∧ Only b w w' ∧ Scan w' b (M (Lib.trimLeftS (L s) wsS)) o := by
 have hc : w.cell? ⟨b, 0, none⟩ = some (.string s) := hb.cell 0
 have HB := Lib.hid hb
 clear hb
 go_enter Tryz.func94, Tryz.ntmps94
 go_wp2_with fail
 refine (skip_calls s w).mono ?_
 rintro e w1 ⟨rfl, h1⟩
 have hb1 : Scan w1 b s o := HB.out.below h1 HB.out.lt
 have hc1 : w1.cell? ⟨b, 0, none⟩ = some (.string s) := hb1.cell 0
 have hf1 := hb1.frozen 0
 have H1 := Lib.hid h1
 have HB1 := Lib.hid hb1
 clear h1 hb1 hc
 go_wp2
 go_ret
 refine ⟨?_, (Off.of_below H1.out).set _ _ (.inl rfl), HB1.out.set 0 _⟩
 congr 2
theorem must_ok (w : World) : Calls Tryz.prog 91 #[.bool true] w fun e w' => e = .returned (.tuple #[]) ∧ w' = w := by
 go_enter Tryz.func91, Tryz.ntmps91
 go_wp2
 go_end0
 exact ⟨rfl, rfl⟩
def Gb (b : Nat) (w : World) : Prop := ∃ w0, Glob w0 ∧ w0.heap.size ≤ b ∧ Below w0.heap.size w0 w
theorem Gb.glob {b : Nat} {w : World} (h : Gb b w) : Glob w := by
 obtain ⟨w0, h0, _, hb⟩ := h
 exact h0.below hb
theorem Gb.off {S : Nat → Prop} {b : Nat} {w w' : World} (h : Gb b w) (ho : Off S w w') (hS : ∀ k, S k → b ≤ k) : Gb b w' := by
 obtain ⟨w0, h0, h1, h2⟩ := h
 refine ⟨w0, h0, h1, h2.trans ⟨ho.os, ho.tape, ho.output, ?_, fun k hk => ?_⟩⟩
 ·exact ho.size
 ·exact ho.block k (Nat.lt_of_lt_of_le hk h2.size) (fun hs => by have := hS k hs; omega)
theorem Gb.below {b : Nat} {w w' : World} (h : Gb b w) (hb : Below w.heap.size w w') : Gb b w' := h.off (Off.of_below (S := fun _ => False) hb) (fun _ h => h.elim)
theorem upTo_calls (b : Nat) (s t : ByteArray) (o : Value) (w : World) (hG : Glob w) (hb : Scan w b s o) (hs : s.size < 4294967281) (u v : Bs) (hcut : Lib.cut (L s) (L t) = (u, v, true)) :
  Calls Tryz.prog 61 #[.pointer (some ⟨b, 0, none⟩), .string t] w fun e w' => e = .returned (.string (M u)) ∧ Only b w w' ∧ Scan w' b (M v) o := by
 have hc : w.cell? ⟨b, 0, none⟩ = some (.string s) := hb.cell 0
 obtain ⟨m, hm⟩ := hG.max
 have HC := Lib.hid hcut
 have HB := Lib.hid hb
 clear hb hG
 go_enter Tryz.func61, Tryz.ntmps61
 go_wp2_with fail
 refine (Tryz.strings_Cut s t m w hs hm).mono ?_
 rintro e w1 ⟨rfl, n, rfl⟩
 rw [show Lib.cut s.data.toList t.data.toList = (u, v, true) from hcut]
 have hn := below_drewN w n
 have hb1 : Scan (w.drewN n) b s o := HB.out.below hn HB.out.lt
 have hf1 := hb1.frozen 0
 have hc1 : (w.drewN n).cell? ⟨b, 0, none⟩ = some (.string s) := hb1.cell 0
 have H1 := Lib.hid hn
 have HB1 := Lib.hid hb1
 clear hn hb1 hc hcut hm
 generalize w.drewN n = w1 at *
 go_wp2_with fail
 refine (must_ok w1).mono ?_
 rintro e w2 ⟨rfl, rfl⟩
 go_wp2
 go_ret
 exact ⟨rfl, (Off.of_below H1.out).set _ _ (.inl rfl), HB1.out.set 0 _⟩
end Go.Proofs.YtadgeghipimfiaaGreatDoor.X
end
section
namespace Go.Proofs.YtadgeghipimfiaaGreatDoor.X
open Go.RowKit Go.Shelf
def strings_Cut.f (a0 a1 : ByteArray) : Option (ByteArray × ByteArray × Bool) :=
 if a0.size < 4294967281 then some (⟨(Lib.cut a0.data.toList a1.data.toList).1.toArray⟩, ⟨(Lib.cut a0.data.toList a1.data.toList).2.1.toArray⟩, (Lib.cut a0.data.toList a1.data.toList).2.2) else none
theorem strings_Cut.calls (a0 a1 : ByteArray) (r1 r2 : ByteArray) (r3 : Bool) (w : World) (hG : Glob w) (h : strings_Cut.f a0 a1 = some (r1, r2, r3)) :
  Calls Tryz.prog 95 #[.string a0, .string a1] w fun e w' => e = .returned (.tuple #[.string r1, .string r2, .bool r3]) ∧ Below w.heap.size w w' := by
 unfold strings_Cut.f at h
 split at h
 ·rename_i hs
  cases h
  obtain ⟨m, hm⟩ := hG.max
  refine (Tryz.strings_Cut a0 a1 m w hs hm).mono ?_
  rintro e w' ⟨rfl, n, rfl⟩
  exact ⟨rfl, below_drewN w n⟩
 ·cases h
def strings_Contains.f (a0 a1 : ByteArray) : Option Bool := match a1.data.toList with | [c] => some (decide (0 ≤ Lib.indexByte a0.data.toList c)) | _ => none
theorem strings_Contains.calls (a0 a1 : ByteArray) (r : Bool) (w : World) (hG : Glob w) (h : strings_Contains.f a0 a1 = some r) :
  Calls Tryz.prog 41 #[.string a0, .string a1] w fun e w' => e = .returned (.bool r) ∧ Below w.heap.size w w' := by
 obtain ⟨⟨l⟩⟩ := a1
 match l, h with
 | [c], h =>
   cases h
   refine (Tryz.strings_Contains_one a0 c w).mono ?_
   rintro e w' ⟨rfl, rfl⟩
   exact ⟨rfl, Below.refl _ _⟩
def strings_ReplaceAll.f (a0 a1 a2 : ByteArray) : Option ByteArray :=
 if a0.size < 4294967281 ∧ 1 ≤ a1.size ∧ a0.size + Lib.countB a0 a1 * a2.size ≤ 140737488355328 then some ⟨(Lib.replaceAll a0.data.toList a1.data.toList a2.data.toList).toArray⟩ else none
theorem strings_ReplaceAll.calls (a0 a1 a2 : ByteArray) (r : ByteArray) (w : World) (hG : Glob w) (h : strings_ReplaceAll.f a0 a1 a2 = some r) :
  Calls Tryz.prog 55 #[.string a0, .string a1, .string a2] w fun e w' => e = .returned (.string r) ∧ Below w.heap.size w w' := by
 unfold strings_ReplaceAll.f at h
 split at h
 ·rename_i hs
  cases h
  obtain ⟨m, hm⟩ := hG.max
  exact Tryz.strings_ReplaceAll a0 a1 a2 m w hs.1 hm hs.2.1 hs.2.2
 ·cases h
def utf8_DecodeRuneInString.f (a0 : ByteArray) : Option (Int × Int) := some ((Lib.decodeGo a0).1, (Lib.decodeGo a0).2)
theorem utf8_DecodeRuneInString.calls (a0 : ByteArray) (r1 r2 : Int) (w : World) (hG : Glob w) (h : utf8_DecodeRuneInString.f a0 = some (r1, r2)) :
  Calls Tryz.prog 76 #[.string a0] w fun e w' => e = .returned (.tuple #[.int .i32 r1, .int .i64 r2]) ∧ Below w.heap.size w w' := by
 cases h
 exact Tryz.utf8_DecodeRuneInString a0 w hG.tabs
def glyph_Start.f (a0 : Int) : Option Bool := some (startB a0)
theorem glyph_Start.calls (a0 : Int) (r : Bool) (w : World) (h : glyph_Start.f a0 = some r) : Calls Tryz.prog 78 #[.int .i64 a0] w fun e w' => e = .returned (.bool r) ∧ Below w.heap.size w w' := by
 cases h; exact start_calls a0 w
def glyph_Part.f (a0 : Int) : Option Bool := some (partB a0)
theorem glyph_Part.calls (a0 : Int) (r : Bool) (w : World) (h : glyph_Part.f a0 = some r) : Calls Tryz.prog 77 #[.int .i64 a0] w fun e w' => e = .returned (.bool r) ∧ Below w.heap.size w w' := by
 cases h; exact part_calls a0 w
end Go.Proofs.YtadgeghipimfiaaGreatDoor.X
end
section
namespace Go.Proofs.YtadgeghipimfiaaGreatDoor.Pg
open Go.RowKit Go.Proofs.YtadgeghipimfiaaGreatDoorW.PrintWords Go.Proofs.YtadgeghipimfiaaGreatDoorW.PrintLast Go.Proofs.YtadgeghipimfiaaGreatDoorW.PrintMore
open Go.Proofs.YtadgeghipimfiaaGreatDoor.X
set_option linter.unusedVariables false
set_option linter.unusedSimpArgs false
def glyph_Name.l0 : Nat → ByteArray → Int → Option (ByteArray × ByteArray × Int)
 | 0, _, _ => none
 | k + 1, x0, x5 => if x5 < (x0.size : Int) then (if 0 ≤ x5 then (if x5 ≤ (x0.size : Int) then ((utf8_DecodeRuneInString.f (x0.extract (x5 : Int).toNat x0.size)).bind fun bt101 => (if bt101.1 = 65533 then (if bt101.2 = 1 then (if x5 = 0 then (some ((⟨#[]⟩ : ByteArray), (⟨#[]⟩ : ByteArray), 51)) else (some (x0.extract 0 (x5 : Int).toNat, x0.extract (x5 : Int).toNat x0.size, 0))) else ((glyph_Part.f (wrap64 (bt101.1))).bind fun t103 => (if t103 = true then (if x5 = 0 then ((glyph_Start.f (wrap64 (bt101.1))).bind fun t104 => (if t104 = true then (glyph_Name.l0 k x0 (wrap64 (x5 + bt101.2))) else (some ((⟨#[]⟩ : ByteArray), (⟨#[]⟩ : ByteArray), 51)))) else (glyph_Name.l0 k x0 (wrap64 (x5 + bt101.2)))) else (if x5 = 0 then (some ((⟨#[]⟩ : ByteArray), (⟨#[]⟩ : ByteArray), 51)) else (some (x0.extract 0 (x5 : Int).toNat, x0.extract (x5 : Int).toNat x0.size, 0)))))) else ((glyph_Part.f (wrap64 (bt101.1))).bind fun t105 => (if t105 = true then (if x5 = 0 then ((glyph_Start.f (wrap64 (bt101.1))).bind fun t106 => (if t106 = true then (glyph_Name.l0 k x0 (wrap64 (x5 + bt101.2))) else (some ((⟨#[]⟩ : ByteArray), (⟨#[]⟩ : ByteArray), 51)))) else (glyph_Name.l0 k x0 (wrap64 (x5 + bt101.2)))) else (if x5 = 0 then (some ((⟨#[]⟩ : ByteArray), (⟨#[]⟩ : ByteArray), 51)) else (some (x0.extract 0 (x5 : Int).toNat, x0.extract (x5 : Int).toNat x0.size, 0))))))) else (none)) else (none)) else (if x5 = 0 then (some ((⟨#[]⟩ : ByteArray), (⟨#[]⟩ : ByteArray), 51)) else (if 0 ≤ x5 then (if x5 ≤ (x0.size : Int) then (some (x0.extract 0 (x5 : Int).toNat, x0.extract (x5 : Int).toNat x0.size, 0)) else (none)) else (none)))
def glyph_Name.f (k : Nat) (a0 : ByteArray) : Option (ByteArray × ByteArray × Int) := glyph_Name.l0 k a0 0
set_option maxHeartbeats 8000000 in
set_option maxRecDepth 100000 in
theorem glyph_Name.calls (k : Nat) (a0 : ByteArray) (r1 : ByteArray) (r2 : ByteArray) (r3 : Int) (w : World) (hG : Glob w) (h : glyph_Name.f k a0 = some (r1, r2, r3)) :
  Calls Tryz.prog 44 #[.string a0] w fun e w' => e = .returned (.tuple #[.string r1, .string r2, .int .i64 r3]) ∧ Below w.heap.size w w' := by
 have HG := Aside0.mk hG
 clear hG
 have HB := Aside0.mk (Below.refl w.heap.size w)
 have H : (glyph_Name.l0 k a0 0) = some (r1, r2, r3) := h
 clear h
 have H' := Aside0.mk H
 clear H
 go_enter Tryz.func44, Tryz.ntmps44
 go_wp2
 repeat (go_quiet (fail); try go_wp2)
 go_loopg [5] k (fun kq v5 w' => ∃ (x5_1 : Int), v5 = .int .i64 x5_1 ∧ Aside0 (glyph_Name.l0 kq a0 x5_1 = some (r1, r2, r3)) ∧ Aside0 (kq ≤ k) ∧ Aside0 (Below w.heap.size w w'))
 case atStart => exact ⟨(0), (by first | rfl | (simp; done) | (simp [*]; done) | (simp [xx_ne_nil, xx_eq_nil]; done) | (simp [*, xx_ne_nil, xx_eq_nil]; done)), H', ⟨Nat.le_refl _⟩, ⟨by repeat (first | (with_reducible first | exact HB.out | apply below_alloc | apply pw_below_drewN | apply below_drew1) | exact HB.out)⟩⟩
 case round =>
  clear H'
  obtain ⟨x5_1, rfl, HA, HK1, HB⟩ := hrel
  cases gk with
  | zero => exact absurd HA.out (by simp [glyph_Name.l0])
  | succ k1 =>
    have H := HA.out
    clear HA
    simp only [glyph_Name.l0] at H
    by_cases c2 : x5_1 < (a0.size : Int)
    ·rw [if_pos c2] at H
     have c2b0 : decide (x5_1 < (a0.size : Int)) = true := decide_eq_true c2
     clear c2
     by_cases c3 : 0 ≤ x5_1
     ·rw [if_pos c3] at H
      have c3b0 := eq_true c3
      have c3b1 : decide (0 ≤ x5_1) = true := decide_eq_true c3
      clear c3
      by_cases c4 : x5_1 ≤ (a0.size : Int)
      ·rw [if_pos c4] at H
       have c4b0 := eq_true c4
       have c4b1 : decide (x5_1 ≤ (a0.size : Int)) = true := decide_eq_true c4
       clear c4
       replace H := Option.bind_eq_some_iff.mp H
       obtain ⟨⟨t101, t102⟩, A50, H⟩ := H
       replace H : (if t101 = 65533 then (if t102 = 1 then (if x5_1 = 0 then (some ((⟨#[]⟩ : ByteArray), (⟨#[]⟩ : ByteArray), 51)) else (some (a0.extract 0 (x5_1 : Int).toNat, a0.extract (x5_1 : Int).toNat a0.size, 0))) else ((glyph_Part.f (wrap64 (t101))).bind fun t103 => (if t103 = true then (if x5_1 = 0 then ((glyph_Start.f (wrap64 (t101))).bind fun t104 => (if t104 = true then (glyph_Name.l0 k1 a0 (wrap64 (x5_1 + t102))) else (some ((⟨#[]⟩ : ByteArray), (⟨#[]⟩ : ByteArray), 51)))) else (glyph_Name.l0 k1 a0 (wrap64 (x5_1 + t102)))) else (if x5_1 = 0 then (some ((⟨#[]⟩ : ByteArray), (⟨#[]⟩ : ByteArray), 51)) else (some (a0.extract 0 (x5_1 : Int).toNat, a0.extract (x5_1 : Int).toNat a0.size, 0)))))) else ((glyph_Part.f (wrap64 (t101))).bind fun t105 => (if t105 = true then (if x5_1 = 0 then ((glyph_Start.f (wrap64 (t101))).bind fun t106 => (if t106 = true then (glyph_Name.l0 k1 a0 (wrap64 (x5_1 + t102))) else (some ((⟨#[]⟩ : ByteArray), (⟨#[]⟩ : ByteArray), 51)))) else (glyph_Name.l0 k1 a0 (wrap64 (x5_1 + t102)))) else (if x5_1 = 0 then (some ((⟨#[]⟩ : ByteArray), (⟨#[]⟩ : ByteArray), 51)) else (some (a0.extract 0 (x5_1 : Int).toNat, a0.extract (x5_1 : Int).toNat a0.size, 0)))))) = some (r1, r2, r3) := H
       have A5 := Aside0.mk A50
       clear A50
       by_cases c6 : t101 = 65533
       ·rw [if_pos c6] at H
        have c6b0 : (t101 == 65533) = true := beq_iff_eq.mpr c6
        have c6b1 : (t101 != 65533) = false := bne_eq_false_iff_eq.mpr c6
        clear c6
        by_cases c7 : t102 = 1
        ·rw [if_pos c7] at H
         have c7b0 : (t102 == 1) = true := beq_iff_eq.mpr c7
         have c7b1 : (t102 != 1) = false := bne_eq_false_iff_eq.mpr c7
         clear c7
         by_cases c8 : x5_1 = 0
         ·rw [if_pos c8] at H
          have c8b0 : (x5_1 == 0) = true := beq_iff_eq.mpr c8
          have c8b1 : (x5_1 != 0) = false := bne_eq_false_iff_eq.mpr c8
          clear c8
          simp only [Option.some.injEq, Prod.mk.injEq] at H
          obtain ⟨rfl, rfl, rfl⟩ := H
          go_wp2_with (first | (go_at_call 76; (with_reducible refine (utf8_DecodeRuneInString.calls (a0.extract (x5_1 : Int).toNat a0.size) t101 t102 _ ?side1 A5.out).mono ?_); (case side1 => refine Glob.below HG.out ?_; repeat (first | (with_reducible first | exact HB.out | apply below_alloc | apply pw_below_drewN | apply below_drew1) | exact HB.out)); rintro e w9 ⟨rfl, hb⟩; have n0_ := Aside0.mk (below_step (by repeat (first | (with_reducible first | exact HB.out | apply below_alloc | apply pw_below_drewN | apply below_drew1) | exact HB.out)) hb); clear HB; have HB := n0_; clear n0_; (try clear hb); (try clear hb2); (try clear hk); (try clear hi)))
          repeat (go_quiet (first | (go_at_call 76; (with_reducible refine (utf8_DecodeRuneInString.calls (a0.extract (x5_1 : Int).toNat a0.size) t101 t102 _ ?side1 A5.out).mono ?_); (case side1 => refine Glob.below HG.out ?_; repeat (first | (with_reducible first | exact HB.out | apply below_alloc | apply pw_below_drewN | apply below_drew1) | exact HB.out)); rintro e w9 ⟨rfl, hb⟩; have n0_ := Aside0.mk (below_step (by repeat (first | (with_reducible first | exact HB.out | apply below_alloc | apply pw_below_drewN | apply below_drew1) | exact HB.out)) hb); clear HB; have HB := n0_; clear n0_; (try clear hb); (try clear hb2); (try clear hk); (try clear hi))); try go_wp2_with (first | (go_at_call 76; (with_reducible refine (utf8_DecodeRuneInString.calls (a0.extract (x5_1 : Int).toNat a0.size) t101 t102 _ ?side1 A5.out).mono ?_); (case side1 => refine Glob.below HG.out ?_; repeat (first | (with_reducible first | exact HB.out | apply below_alloc | apply pw_below_drewN | apply below_drew1) | exact HB.out)); rintro e w9 ⟨rfl, hb⟩; have n0_ := Aside0.mk (below_step (by repeat (first | (with_reducible first | exact HB.out | apply below_alloc | apply pw_below_drewN | apply below_drew1) | exact HB.out)) hb); clear HB; have HB := n0_; clear n0_; (try clear hb); (try clear hb2); (try clear hk); (try clear hi))))
          go_ret3
          exact ⟨by first | rfl | (simp [errW_none, errW_some] <;> rfl) | (simp [*, errW_none, errW_some] <;> rfl), by repeat (first | (with_reducible first | exact HB.out | apply below_alloc | apply pw_below_drewN | apply below_drew1) | exact HB.out)⟩
         ·rw [if_neg c8] at H
          have c8b0 : (x5_1 == 0) = false := beq_eq_false_iff_ne.mpr c8
          have c8b1 : (x5_1 != 0) = true := bne_iff_ne.mpr c8
          have c10b0 := eq_true (of_decide_eq_true (by first | (with_reducible assumption) | assumption) : 0 ≤ x5_1)
          have c11b0 := eq_true (of_decide_eq_true (by first | (with_reducible assumption) | assumption) : x5_1 ≤ (a0.size : Int))
          have c12b0 := eq_true (of_decide_eq_true (by first | (with_reducible assumption) | assumption) : 0 ≤ x5_1)
          have c13b0 := eq_true (of_decide_eq_true (by first | (with_reducible assumption) | assumption) : x5_1 ≤ (a0.size : Int))
          simp only [Option.some.injEq, Prod.mk.injEq] at H
          obtain ⟨rfl, rfl, rfl⟩ := H
          go_wp2_with (first | (go_at_call 76; (with_reducible refine (utf8_DecodeRuneInString.calls (a0.extract (x5_1 : Int).toNat a0.size) t101 t102 _ ?side1 A5.out).mono ?_); (case side1 => refine Glob.below HG.out ?_; repeat (first | (with_reducible first | exact HB.out | apply below_alloc | apply pw_below_drewN | apply below_drew1) | exact HB.out)); rintro e w14 ⟨rfl, hb⟩; have n0_ := Aside0.mk (below_step (by repeat (first | (with_reducible first | exact HB.out | apply below_alloc | apply pw_below_drewN | apply below_drew1) | exact HB.out)) hb); clear HB; have HB := n0_; clear n0_; (try clear hb); (try clear hb2); (try clear hk); (try clear hi)))
          repeat (go_quiet (first | (go_at_call 76; (with_reducible refine (utf8_DecodeRuneInString.calls (a0.extract (x5_1 : Int).toNat a0.size) t101 t102 _ ?side1 A5.out).mono ?_); (case side1 => refine Glob.below HG.out ?_; repeat (first | (with_reducible first | exact HB.out | apply below_alloc | apply pw_below_drewN | apply below_drew1) | exact HB.out)); rintro e w14 ⟨rfl, hb⟩; have n0_ := Aside0.mk (below_step (by repeat (first | (with_reducible first | exact HB.out | apply below_alloc | apply pw_below_drewN | apply below_drew1) | exact HB.out)) hb); clear HB; have HB := n0_; clear n0_; (try clear hb); (try clear hb2); (try clear hk); (try clear hi))); try go_wp2_with (first | (go_at_call 76; (with_reducible refine (utf8_DecodeRuneInString.calls (a0.extract (x5_1 : Int).toNat a0.size) t101 t102 _ ?side1 A5.out).mono ?_); (case side1 => refine Glob.below HG.out ?_; repeat (first | (with_reducible first | exact HB.out | apply below_alloc | apply pw_below_drewN | apply below_drew1) | exact HB.out)); rintro e w14 ⟨rfl, hb⟩; have n0_ := Aside0.mk (below_step (by repeat (first | (with_reducible first | exact HB.out | apply below_alloc | apply pw_below_drewN | apply below_drew1) | exact HB.out)) hb); clear HB; have HB := n0_; clear n0_; (try clear hb); (try clear hb2); (try clear hk); (try clear hi))))
          go_ret3
          exact ⟨by first | rfl | (simp [errW_none, errW_some] <;> rfl) | (simp [*, errW_none, errW_some] <;> rfl), by repeat (first | (with_reducible first | exact HB.out | apply below_alloc | apply pw_below_drewN | apply below_drew1) | exact HB.out)⟩
        ·rw [if_neg c7] at H
         have c7b0 : (t102 == 1) = false := beq_eq_false_iff_ne.mpr c7
         have c7b1 : (t102 != 1) = true := bne_iff_ne.mpr c7
         replace H := Option.bind_eq_some_iff.mp H
         obtain ⟨t103, A150, H⟩ := H
         replace H : (if t103 = true then (if x5_1 = 0 then ((glyph_Start.f (wrap64 (t101))).bind fun t104 => (if t104 = true then (glyph_Name.l0 k1 a0 (wrap64 (x5_1 + t102))) else (some ((⟨#[]⟩ : ByteArray), (⟨#[]⟩ : ByteArray), 51)))) else (glyph_Name.l0 k1 a0 (wrap64 (x5_1 + t102)))) else (if x5_1 = 0 then (some ((⟨#[]⟩ : ByteArray), (⟨#[]⟩ : ByteArray), 51)) else (some (a0.extract 0 (x5_1 : Int).toNat, a0.extract (x5_1 : Int).toNat a0.size, 0)))) = some (r1, r2, r3) := H
         have A15 := Aside0.mk A150
         clear A150
         by_cases c16 : t103 = true
         ·subst c16
          have H1 : (if x5_1 = 0 then ((glyph_Start.f (wrap64 (t101))).bind fun t104 => (if t104 = true then (glyph_Name.l0 k1 a0 (wrap64 (x5_1 + t102))) else (some ((⟨#[]⟩ : ByteArray), (⟨#[]⟩ : ByteArray), 51)))) else (glyph_Name.l0 k1 a0 (wrap64 (x5_1 + t102)))) = some (r1, r2, r3) := by rw [if_pos rfl] at H; exact H
          clear H
          have H := H1
          clear H1
          by_cases c17 : x5_1 = 0
          ·rw [if_pos c17] at H
           have c17b0 : (x5_1 == 0) = true := beq_iff_eq.mpr c17
           have c17b1 : (x5_1 != 0) = false := bne_eq_false_iff_eq.mpr c17
           clear c17
           replace H := Option.bind_eq_some_iff.mp H
           obtain ⟨t104, A180, H⟩ := H
           replace H : (if t104 = true then (glyph_Name.l0 k1 a0 (wrap64 (x5_1 + t102))) else (some ((⟨#[]⟩ : ByteArray), (⟨#[]⟩ : ByteArray), 51))) = some (r1, r2, r3) := H
           have A18 := Aside0.mk A180
           clear A180
           by_cases c19 : t104 = true
           ·subst c19
            have H1 : (glyph_Name.l0 k1 a0 (wrap64 (x5_1 + t102))) = some (r1, r2, r3) := by rw [if_pos rfl] at H; exact H
            clear H
            have H := H1
            clear H1
            have H' := Aside0.mk H
            clear H
            go_wp2_with (first | (go_at_call 76; (with_reducible refine (utf8_DecodeRuneInString.calls (a0.extract (x5_1 : Int).toNat a0.size) t101 t102 _ ?side1 A5.out).mono ?_); (case side1 => refine Glob.below HG.out ?_; repeat (first | (with_reducible first | exact HB.out | apply below_alloc | apply pw_below_drewN | apply below_drew1) | exact HB.out)); rintro e w20 ⟨rfl, hb⟩; have n0_ := Aside0.mk (below_step (by repeat (first | (with_reducible first | exact HB.out | apply below_alloc | apply pw_below_drewN | apply below_drew1) | exact HB.out)) hb); clear HB; have HB := n0_; clear n0_; (try clear hb); (try clear hb2); (try clear hk); (try clear hi)) | (go_at_call 77; (with_reducible refine (glyph_Part.calls (wrap64 (t101)) true _ A15.out).mono ?_); rintro e w21 ⟨rfl, hb⟩; have n0_ := Aside0.mk (below_step (by repeat (first | (with_reducible first | exact HB.out | apply below_alloc | apply pw_below_drewN | apply below_drew1) | exact HB.out)) hb); clear HB; have HB := n0_; clear n0_; (try clear hb); (try clear hb2); (try clear hk); (try clear hi)) | (go_at_call 78; (with_reducible refine (glyph_Start.calls (wrap64 (t101)) true _ A18.out).mono ?_); rintro e w22 ⟨rfl, hb⟩; have n0_ := Aside0.mk (below_step (by repeat (first | (with_reducible first | exact HB.out | apply below_alloc | apply pw_below_drewN | apply below_drew1) | exact HB.out)) hb); clear HB; have HB := n0_; clear n0_; (try clear hb); (try clear hb2); (try clear hk); (try clear hi)))
            repeat (go_quiet (first | (go_at_call 76; (with_reducible refine (utf8_DecodeRuneInString.calls (a0.extract (x5_1 : Int).toNat a0.size) t101 t102 _ ?side1 A5.out).mono ?_); (case side1 => refine Glob.below HG.out ?_; repeat (first | (with_reducible first | exact HB.out | apply below_alloc | apply pw_below_drewN | apply below_drew1) | exact HB.out)); rintro e w20 ⟨rfl, hb⟩; have n0_ := Aside0.mk (below_step (by repeat (first | (with_reducible first | exact HB.out | apply below_alloc | apply pw_below_drewN | apply below_drew1) | exact HB.out)) hb); clear HB; have HB := n0_; clear n0_; (try clear hb); (try clear hb2); (try clear hk); (try clear hi)) | (go_at_call 77; (with_reducible refine (glyph_Part.calls (wrap64 (t101)) true _ A15.out).mono ?_); rintro e w21 ⟨rfl, hb⟩; have n0_ := Aside0.mk (below_step (by repeat (first | (with_reducible first | exact HB.out | apply below_alloc | apply pw_below_drewN | apply below_drew1) | exact HB.out)) hb); clear HB; have HB := n0_; clear n0_; (try clear hb); (try clear hb2); (try clear hk); (try clear hi)) | (go_at_call 78; (with_reducible refine (glyph_Start.calls (wrap64 (t101)) true _ A18.out).mono ?_); rintro e w22 ⟨rfl, hb⟩; have n0_ := Aside0.mk (below_step (by repeat (first | (with_reducible first | exact HB.out | apply below_alloc | apply pw_below_drewN | apply below_drew1) | exact HB.out)) hb); clear HB; have HB := n0_; clear n0_; (try clear hb); (try clear hb2); (try clear hk); (try clear hi))); try go_wp2_with (first | (go_at_call 76; (with_reducible refine (utf8_DecodeRuneInString.calls (a0.extract (x5_1 : Int).toNat a0.size) t101 t102 _ ?side1 A5.out).mono ?_); (case side1 => refine Glob.below HG.out ?_; repeat (first | (with_reducible first | exact HB.out | apply below_alloc | apply pw_below_drewN | apply below_drew1) | exact HB.out)); rintro e w20 ⟨rfl, hb⟩; have n0_ := Aside0.mk (below_step (by repeat (first | (with_reducible first | exact HB.out | apply below_alloc | apply pw_below_drewN | apply below_drew1) | exact HB.out)) hb); clear HB; have HB := n0_; clear n0_; (try clear hb); (try clear hb2); (try clear hk); (try clear hi)) | (go_at_call 77; (with_reducible refine (glyph_Part.calls (wrap64 (t101)) true _ A15.out).mono ?_); rintro e w21 ⟨rfl, hb⟩; have n0_ := Aside0.mk (below_step (by repeat (first | (with_reducible first | exact HB.out | apply below_alloc | apply pw_below_drewN | apply below_drew1) | exact HB.out)) hb); clear HB; have HB := n0_; clear n0_; (try clear hb); (try clear hb2); (try clear hk); (try clear hi)) | (go_at_call 78; (with_reducible refine (glyph_Start.calls (wrap64 (t101)) true _ A18.out).mono ?_); rintro e w22 ⟨rfl, hb⟩; have n0_ := Aside0.mk (below_step (by repeat (first | (with_reducible first | exact HB.out | apply below_alloc | apply pw_below_drewN | apply below_drew1) | exact HB.out)) hb); clear HB; have HB := n0_; clear n0_; (try clear hb); (try clear hb2); (try clear hk); (try clear hi))))
            go_roundg k1
            case measure => have := HK1.out; omega
            case rel => exact ⟨(wrap64 (x5_1 + t102)), (by first | rfl | (simp; done) | (simp [*]; done) | (simp [xx_ne_nil, xx_eq_nil]; done) | (simp [*, xx_ne_nil, xx_eq_nil]; done)), H', ⟨by have := HK1.out; omega⟩, ⟨by repeat (first | (with_reducible first | exact HB.out | apply below_alloc | apply pw_below_drewN | apply below_drew1) | exact HB.out)⟩⟩
           ·replace c19 := Bool.eq_false_iff.mpr c19
            subst c19
            have H1 : (some ((⟨#[]⟩ : ByteArray), (⟨#[]⟩ : ByteArray), 51)) = some (r1, r2, r3) := by rw [if_neg (show ¬ (false = true) by decide)] at H; exact H
            clear H
            have H := H1
            clear H1
            simp only [Option.some.injEq, Prod.mk.injEq] at H
            obtain ⟨rfl, rfl, rfl⟩ := H
            go_wp2_with (first | (go_at_call 76; (with_reducible refine (utf8_DecodeRuneInString.calls (a0.extract (x5_1 : Int).toNat a0.size) t101 t102 _ ?side1 A5.out).mono ?_); (case side1 => refine Glob.below HG.out ?_; repeat (first | (with_reducible first | exact HB.out | apply below_alloc | apply pw_below_drewN | apply below_drew1) | exact HB.out)); rintro e w23 ⟨rfl, hb⟩; have n0_ := Aside0.mk (below_step (by repeat (first | (with_reducible first | exact HB.out | apply below_alloc | apply pw_below_drewN | apply below_drew1) | exact HB.out)) hb); clear HB; have HB := n0_; clear n0_; (try clear hb); (try clear hb2); (try clear hk); (try clear hi)) | (go_at_call 77; (with_reducible refine (glyph_Part.calls (wrap64 (t101)) true _ A15.out).mono ?_); rintro e w24 ⟨rfl, hb⟩; have n0_ := Aside0.mk (below_step (by repeat (first | (with_reducible first | exact HB.out | apply below_alloc | apply pw_below_drewN | apply below_drew1) | exact HB.out)) hb); clear HB; have HB := n0_; clear n0_; (try clear hb); (try clear hb2); (try clear hk); (try clear hi)) | (go_at_call 78; (with_reducible refine (glyph_Start.calls (wrap64 (t101)) false _ A18.out).mono ?_); rintro e w25 ⟨rfl, hb⟩; have n0_ := Aside0.mk (below_step (by repeat (first | (with_reducible first | exact HB.out | apply below_alloc | apply pw_below_drewN | apply below_drew1) | exact HB.out)) hb); clear HB; have HB := n0_; clear n0_; (try clear hb); (try clear hb2); (try clear hk); (try clear hi)))
            repeat (go_quiet (first | (go_at_call 76; (with_reducible refine (utf8_DecodeRuneInString.calls (a0.extract (x5_1 : Int).toNat a0.size) t101 t102 _ ?side1 A5.out).mono ?_); (case side1 => refine Glob.below HG.out ?_; repeat (first | (with_reducible first | exact HB.out | apply below_alloc | apply pw_below_drewN | apply below_drew1) | exact HB.out)); rintro e w23 ⟨rfl, hb⟩; have n0_ := Aside0.mk (below_step (by repeat (first | (with_reducible first | exact HB.out | apply below_alloc | apply pw_below_drewN | apply below_drew1) | exact HB.out)) hb); clear HB; have HB := n0_; clear n0_; (try clear hb); (try clear hb2); (try clear hk); (try clear hi)) | (go_at_call 77; (with_reducible refine (glyph_Part.calls (wrap64 (t101)) true _ A15.out).mono ?_); rintro e w24 ⟨rfl, hb⟩; have n0_ := Aside0.mk (below_step (by repeat (first | (with_reducible first | exact HB.out | apply below_alloc | apply pw_below_drewN | apply below_drew1) | exact HB.out)) hb); clear HB; have HB := n0_; clear n0_; (try clear hb); (try clear hb2); (try clear hk); (try clear hi)) | (go_at_call 78; (with_reducible refine (glyph_Start.calls (wrap64 (t101)) false _ A18.out).mono ?_); rintro e w25 ⟨rfl, hb⟩; have n0_ := Aside0.mk (below_step (by repeat (first | (with_reducible first | exact HB.out | apply below_alloc | apply pw_below_drewN | apply below_drew1) | exact HB.out)) hb); clear HB; have HB := n0_; clear n0_; (try clear hb); (try clear hb2); (try clear hk); (try clear hi))); try go_wp2_with (first | (go_at_call 76; (with_reducible refine (utf8_DecodeRuneInString.calls (a0.extract (x5_1 : Int).toNat a0.size) t101 t102 _ ?side1 A5.out).mono ?_); (case side1 => refine Glob.below HG.out ?_; repeat (first | (with_reducible first | exact HB.out | apply below_alloc | apply pw_below_drewN | apply below_drew1) | exact HB.out)); rintro e w23 ⟨rfl, hb⟩; have n0_ := Aside0.mk (below_step (by repeat (first | (with_reducible first | exact HB.out | apply below_alloc | apply pw_below_drewN | apply below_drew1) | exact HB.out)) hb); clear HB; have HB := n0_; clear n0_; (try clear hb); (try clear hb2); (try clear hk); (try clear hi)) | (go_at_call 77; (with_reducible refine (glyph_Part.calls (wrap64 (t101)) true _ A15.out).mono ?_); rintro e w24 ⟨rfl, hb⟩; have n0_ := Aside0.mk (below_step (by repeat (first | (with_reducible first | exact HB.out | apply below_alloc | apply pw_below_drewN | apply below_drew1) | exact HB.out)) hb); clear HB; have HB := n0_; clear n0_; (try clear hb); (try clear hb2); (try clear hk); (try clear hi)) | (go_at_call 78; (with_reducible refine (glyph_Start.calls (wrap64 (t101)) false _ A18.out).mono ?_); rintro e w25 ⟨rfl, hb⟩; have n0_ := Aside0.mk (below_step (by repeat (first | (with_reducible first | exact HB.out | apply below_alloc | apply pw_below_drewN | apply below_drew1) | exact HB.out)) hb); clear HB; have HB := n0_; clear n0_; (try clear hb); (try clear hb2); (try clear hk); (try clear hi))))
            go_ret3
            exact ⟨by first | rfl | (simp [errW_none, errW_some] <;> rfl) | (simp [*, errW_none, errW_some] <;> rfl), by repeat (first | (with_reducible first | exact HB.out | apply below_alloc | apply pw_below_drewN | apply below_drew1) | exact HB.out)⟩
          ·rw [if_neg c17] at H
           have c17b0 : (x5_1 == 0) = false := beq_eq_false_iff_ne.mpr c17
           have c17b1 : (x5_1 != 0) = true := bne_iff_ne.mpr c17
           have H' := Aside0.mk H
           clear H
           go_wp2_with (first | (go_at_call 76; (with_reducible refine (utf8_DecodeRuneInString.calls (a0.extract (x5_1 : Int).toNat a0.size) t101 t102 _ ?side1 A5.out).mono ?_); (case side1 => refine Glob.below HG.out ?_; repeat (first | (with_reducible first | exact HB.out | apply below_alloc | apply pw_below_drewN | apply below_drew1) | exact HB.out)); rintro e w26 ⟨rfl, hb⟩; have n0_ := Aside0.mk (below_step (by repeat (first | (with_reducible first | exact HB.out | apply below_alloc | apply pw_below_drewN | apply below_drew1) | exact HB.out)) hb); clear HB; have HB := n0_; clear n0_; (try clear hb); (try clear hb2); (try clear hk); (try clear hi)) | (go_at_call 77; (with_reducible refine (glyph_Part.calls (wrap64 (t101)) true _ A15.out).mono ?_); rintro e w27 ⟨rfl, hb⟩; have n0_ := Aside0.mk (below_step (by repeat (first | (with_reducible first | exact HB.out | apply below_alloc | apply pw_below_drewN | apply below_drew1) | exact HB.out)) hb); clear HB; have HB := n0_; clear n0_; (try clear hb); (try clear hb2); (try clear hk); (try clear hi)))
           repeat (go_quiet (first | (go_at_call 76; (with_reducible refine (utf8_DecodeRuneInString.calls (a0.extract (x5_1 : Int).toNat a0.size) t101 t102 _ ?side1 A5.out).mono ?_); (case side1 => refine Glob.below HG.out ?_; repeat (first | (with_reducible first | exact HB.out | apply below_alloc | apply pw_below_drewN | apply below_drew1) | exact HB.out)); rintro e w26 ⟨rfl, hb⟩; have n0_ := Aside0.mk (below_step (by repeat (first | (with_reducible first | exact HB.out | apply below_alloc | apply pw_below_drewN | apply below_drew1) | exact HB.out)) hb); clear HB; have HB := n0_; clear n0_; (try clear hb); (try clear hb2); (try clear hk); (try clear hi)) | (go_at_call 77; (with_reducible refine (glyph_Part.calls (wrap64 (t101)) true _ A15.out).mono ?_); rintro e w27 ⟨rfl, hb⟩; have n0_ := Aside0.mk (below_step (by repeat (first | (with_reducible first | exact HB.out | apply below_alloc | apply pw_below_drewN | apply below_drew1) | exact HB.out)) hb); clear HB; have HB := n0_; clear n0_; (try clear hb); (try clear hb2); (try clear hk); (try clear hi))); try go_wp2_with (first | (go_at_call 76; (with_reducible refine (utf8_DecodeRuneInString.calls (a0.extract (x5_1 : Int).toNat a0.size) t101 t102 _ ?side1 A5.out).mono ?_); (case side1 => refine Glob.below HG.out ?_; repeat (first | (with_reducible first | exact HB.out | apply below_alloc | apply pw_below_drewN | apply below_drew1) | exact HB.out)); rintro e w26 ⟨rfl, hb⟩; have n0_ := Aside0.mk (below_step (by repeat (first | (with_reducible first | exact HB.out | apply below_alloc | apply pw_below_drewN | apply below_drew1) | exact HB.out)) hb); clear HB; have HB := n0_; clear n0_; (try clear hb); (try clear hb2); (try clear hk); (try clear hi)) | (go_at_call 77; (with_reducible refine (glyph_Part.calls (wrap64 (t101)) true _ A15.out).mono ?_); rintro e w27 ⟨rfl, hb⟩; have n0_ := Aside0.mk (below_step (by repeat (first | (with_reducible first | exact HB.out | apply below_alloc | apply pw_below_drewN | apply below_drew1) | exact HB.out)) hb); clear HB; have HB := n0_; clear n0_; (try clear hb); (try clear hb2); (try clear hk); (try clear hi))))
           go_roundg k1
           case measure => have := HK1.out; omega
           case rel => exact ⟨(wrap64 (x5_1 + t102)), (by first | rfl | (simp; done) | (simp [*]; done) | (simp [xx_ne_nil, xx_eq_nil]; done) | (simp [*, xx_ne_nil, xx_eq_nil]; done)), H', ⟨by have := HK1.out; omega⟩, ⟨by repeat (first | (with_reducible first | exact HB.out | apply below_alloc | apply pw_below_drewN | apply below_drew1) | exact HB.out)⟩⟩
         ·replace c16 := Bool.eq_false_iff.mpr c16
          subst c16
          have H1 : (if x5_1 = 0 then (some ((⟨#[]⟩ : ByteArray), (⟨#[]⟩ : ByteArray), 51)) else (some (a0.extract 0 (x5_1 : Int).toNat, a0.extract (x5_1 : Int).toNat a0.size, 0))) = some (r1, r2, r3) := by rw [if_neg (show ¬ (false = true) by decide)] at H; exact H
          clear H
          have H := H1
          clear H1
          by_cases c28 : x5_1 = 0
          ·rw [if_pos c28] at H
           have c28b0 : (x5_1 == 0) = true := beq_iff_eq.mpr c28
           have c28b1 : (x5_1 != 0) = false := bne_eq_false_iff_eq.mpr c28
           clear c28
           simp only [Option.some.injEq, Prod.mk.injEq] at H
           obtain ⟨rfl, rfl, rfl⟩ := H
           go_wp2_with (first | (go_at_call 76; (with_reducible refine (utf8_DecodeRuneInString.calls (a0.extract (x5_1 : Int).toNat a0.size) t101 t102 _ ?side1 A5.out).mono ?_); (case side1 => refine Glob.below HG.out ?_; repeat (first | (with_reducible first | exact HB.out | apply below_alloc | apply pw_below_drewN | apply below_drew1) | exact HB.out)); rintro e w29 ⟨rfl, hb⟩; have n0_ := Aside0.mk (below_step (by repeat (first | (with_reducible first | exact HB.out | apply below_alloc | apply pw_below_drewN | apply below_drew1) | exact HB.out)) hb); clear HB; have HB := n0_; clear n0_; (try clear hb); (try clear hb2); (try clear hk); (try clear hi)) | (go_at_call 77; (with_reducible refine (glyph_Part.calls (wrap64 (t101)) false _ A15.out).mono ?_); rintro e w30 ⟨rfl, hb⟩; have n0_ := Aside0.mk (below_step (by repeat (first | (with_reducible first | exact HB.out | apply below_alloc | apply pw_below_drewN | apply below_drew1) | exact HB.out)) hb); clear HB; have HB := n0_; clear n0_; (try clear hb); (try clear hb2); (try clear hk); (try clear hi)))
           repeat (go_quiet (first | (go_at_call 76; (with_reducible refine (utf8_DecodeRuneInString.calls (a0.extract (x5_1 : Int).toNat a0.size) t101 t102 _ ?side1 A5.out).mono ?_); (case side1 => refine Glob.below HG.out ?_; repeat (first | (with_reducible first | exact HB.out | apply below_alloc | apply pw_below_drewN | apply below_drew1) | exact HB.out)); rintro e w29 ⟨rfl, hb⟩; have n0_ := Aside0.mk (below_step (by repeat (first | (with_reducible first | exact HB.out | apply below_alloc | apply pw_below_drewN | apply below_drew1) | exact HB.out)) hb); clear HB; have HB := n0_; clear n0_; (try clear hb); (try clear hb2); (try clear hk); (try clear hi)) | (go_at_call 77; (with_reducible refine (glyph_Part.calls (wrap64 (t101)) false _ A15.out).mono ?_); rintro e w30 ⟨rfl, hb⟩; have n0_ := Aside0.mk (below_step (by repeat (first | (with_reducible first | exact HB.out | apply below_alloc | apply pw_below_drewN | apply below_drew1) | exact HB.out)) hb); clear HB; have HB := n0_; clear n0_; (try clear hb); (try clear hb2); (try clear hk); (try clear hi))); try go_wp2_with (first | (go_at_call 76; (with_reducible refine (utf8_DecodeRuneInString.calls (a0.extract (x5_1 : Int).toNat a0.size) t101 t102 _ ?side1 A5.out).mono ?_); (case side1 => refine Glob.below HG.out ?_; repeat (first | (with_reducible first | exact HB.out | apply below_alloc | apply pw_below_drewN | apply below_drew1) | exact HB.out)); rintro e w29 ⟨rfl, hb⟩; have n0_ := Aside0.mk (below_step (by repeat (first | (with_reducible first | exact HB.out | apply below_alloc | apply pw_below_drewN | apply below_drew1) | exact HB.out)) hb); clear HB; have HB := n0_; clear n0_; (try clear hb); (try clear hb2); (try clear hk); (try clear hi)) | (go_at_call 77; (with_reducible refine (glyph_Part.calls (wrap64 (t101)) false _ A15.out).mono ?_); rintro e w30 ⟨rfl, hb⟩; have n0_ := Aside0.mk (below_step (by repeat (first | (with_reducible first | exact HB.out | apply below_alloc | apply pw_below_drewN | apply below_drew1) | exact HB.out)) hb); clear HB; have HB := n0_; clear n0_; (try clear hb); (try clear hb2); (try clear hk); (try clear hi))))
           go_ret3
           exact ⟨by first | rfl | (simp [errW_none, errW_some] <;> rfl) | (simp [*, errW_none, errW_some] <;> rfl), by repeat (first | (with_reducible first | exact HB.out | apply below_alloc | apply pw_below_drewN | apply below_drew1) | exact HB.out)⟩
          ·rw [if_neg c28] at H
           have c28b0 : (x5_1 == 0) = false := beq_eq_false_iff_ne.mpr c28
           have c28b1 : (x5_1 != 0) = true := bne_iff_ne.mpr c28
           have c31b0 := eq_true (of_decide_eq_true (by first | (with_reducible assumption) | assumption) : 0 ≤ x5_1)
           have c32b0 := eq_true (of_decide_eq_true (by first | (with_reducible assumption) | assumption) : x5_1 ≤ (a0.size : Int))
           have c33b0 := eq_true (of_decide_eq_true (by first | (with_reducible assumption) | assumption) : 0 ≤ x5_1)
           have c34b0 := eq_true (of_decide_eq_true (by first | (with_reducible assumption) | assumption) : x5_1 ≤ (a0.size : Int))
           simp only [Option.some.injEq, Prod.mk.injEq] at H
           obtain ⟨rfl, rfl, rfl⟩ := H
           go_wp2_with (first | (go_at_call 76; (with_reducible refine (utf8_DecodeRuneInString.calls (a0.extract (x5_1 : Int).toNat a0.size) t101 t102 _ ?side1 A5.out).mono ?_); (case side1 => refine Glob.below HG.out ?_; repeat (first | (with_reducible first | exact HB.out | apply below_alloc | apply pw_below_drewN | apply below_drew1) | exact HB.out)); rintro e w35 ⟨rfl, hb⟩; have n0_ := Aside0.mk (below_step (by repeat (first | (with_reducible first | exact HB.out | apply below_alloc | apply pw_below_drewN | apply below_drew1) | exact HB.out)) hb); clear HB; have HB := n0_; clear n0_; (try clear hb); (try clear hb2); (try clear hk); (try clear hi)) | (go_at_call 77; (with_reducible refine (glyph_Part.calls (wrap64 (t101)) false _ A15.out).mono ?_); rintro e w36 ⟨rfl, hb⟩; have n0_ := Aside0.mk (below_step (by repeat (first | (with_reducible first | exact HB.out | apply below_alloc | apply pw_below_drewN | apply below_drew1) | exact HB.out)) hb); clear HB; have HB := n0_; clear n0_; (try clear hb); (try clear hb2); (try clear hk); (try clear hi)))
           repeat (go_quiet (first | (go_at_call 76; (with_reducible refine (utf8_DecodeRuneInString.calls (a0.extract (x5_1 : Int).toNat a0.size) t101 t102 _ ?side1 A5.out).mono ?_); (case side1 => refine Glob.below HG.out ?_; repeat (first | (with_reducible first | exact HB.out | apply below_alloc | apply pw_below_drewN | apply below_drew1) | exact HB.out)); rintro e w35 ⟨rfl, hb⟩; have n0_ := Aside0.mk (below_step (by repeat (first | (with_reducible first | exact HB.out | apply below_alloc | apply pw_below_drewN | apply below_drew1) | exact HB.out)) hb); clear HB; have HB := n0_; clear n0_; (try clear hb); (try clear hb2); (try clear hk); (try clear hi)) | (go_at_call 77; (with_reducible refine (glyph_Part.calls (wrap64 (t101)) false _ A15.out).mono ?_); rintro e w36 ⟨rfl, hb⟩; have n0_ := Aside0.mk (below_step (by repeat (first | (with_reducible first | exact HB.out | apply below_alloc | apply pw_below_drewN | apply below_drew1) | exact HB.out)) hb); clear HB; have HB := n0_; clear n0_; (try clear hb); (try clear hb2); (try clear hk); (try clear hi))); try go_wp2_with (first | (go_at_call 76; (with_reducible refine (utf8_DecodeRuneInString.calls (a0.extract (x5_1 : Int).toNat a0.size) t101 t102 _ ?side1 A5.out).mono ?_); (case side1 => refine Glob.below HG.out ?_; repeat (first | (with_reducible first | exact HB.out | apply below_alloc | apply pw_below_drewN | apply below_drew1) | exact HB.out)); rintro e w35 ⟨rfl, hb⟩; have n0_ := Aside0.mk (below_step (by repeat (first | (with_reducible first | exact HB.out | apply below_alloc | apply pw_below_drewN | apply below_drew1) | exact HB.out)) hb); clear HB; have HB := n0_; clear n0_; (try clear hb); (try clear hb2); (try clear hk); (try clear hi)) | (go_at_call 77; (with_reducible refine (glyph_Part.calls (wrap64 (t101)) false _ A15.out).mono ?_); rintro e w36 ⟨rfl, hb⟩; have n0_ := Aside0.mk (below_step (by repeat (first | (with_reducible first | exact HB.out | apply below_alloc | apply pw_below_drewN | apply below_drew1) | exact HB.out)) hb); clear HB; have HB := n0_; clear n0_; (try clear hb); (try clear hb2); (try clear hk); (try clear hi))))
           go_ret3
           exact ⟨by first | rfl | (simp [errW_none, errW_some] <;> rfl) | (simp [*, errW_none, errW_some] <;> rfl), by repeat (first | (with_reducible first | exact HB.out | apply below_alloc | apply pw_below_drewN | apply below_drew1) | exact HB.out)⟩
       ·rw [if_neg c6] at H
        have c6b0 : (t101 == 65533) = false := beq_eq_false_iff_ne.mpr c6
        have c6b1 : (t101 != 65533) = true := bne_iff_ne.mpr c6
        replace H := Option.bind_eq_some_iff.mp H
        obtain ⟨t105, A370, H⟩ := H
        replace H : (if t105 = true then (if x5_1 = 0 then ((glyph_Start.f (wrap64 (t101))).bind fun t106 => (if t106 = true then (glyph_Name.l0 k1 a0 (wrap64 (x5_1 + t102))) else (some ((⟨#[]⟩ : ByteArray), (⟨#[]⟩ : ByteArray), 51)))) else (glyph_Name.l0 k1 a0 (wrap64 (x5_1 + t102)))) else (if x5_1 = 0 then (some ((⟨#[]⟩ : ByteArray), (⟨#[]⟩ : ByteArray), 51)) else (some (a0.extract 0 (x5_1 : Int).toNat, a0.extract (x5_1 : Int).toNat a0.size, 0)))) = some (r1, r2, r3) := H
        have A37 := Aside0.mk A370
        clear A370
        by_cases c38 : t105 = true
        ·subst c38
         have H1 : (if x5_1 = 0 then ((glyph_Start.f (wrap64 (t101))).bind fun t106 => (if t106 = true then (glyph_Name.l0 k1 a0 (wrap64 (x5_1 + t102))) else (some ((⟨#[]⟩ : ByteArray), (⟨#[]⟩ : ByteArray), 51)))) else (glyph_Name.l0 k1 a0 (wrap64 (x5_1 + t102)))) = some (r1, r2, r3) := by rw [if_pos rfl] at H; exact H
         clear H
         have H := H1
         clear H1
         by_cases c39 : x5_1 = 0
         ·rw [if_pos c39] at H
          have c39b0 : (x5_1 == 0) = true := beq_iff_eq.mpr c39
          have c39b1 : (x5_1 != 0) = false := bne_eq_false_iff_eq.mpr c39
          clear c39
          replace H := Option.bind_eq_some_iff.mp H
          obtain ⟨t106, A400, H⟩ := H
          replace H : (if t106 = true then (glyph_Name.l0 k1 a0 (wrap64 (x5_1 + t102))) else (some ((⟨#[]⟩ : ByteArray), (⟨#[]⟩ : ByteArray), 51))) = some (r1, r2, r3) := H
          have A40 := Aside0.mk A400
          clear A400
          by_cases c41 : t106 = true
          ·subst c41
           have H1 : (glyph_Name.l0 k1 a0 (wrap64 (x5_1 + t102))) = some (r1, r2, r3) := by rw [if_pos rfl] at H; exact H
           clear H
           have H := H1
           clear H1
           have H' := Aside0.mk H
           clear H
           go_wp2_with (first | (go_at_call 76; (with_reducible refine (utf8_DecodeRuneInString.calls (a0.extract (x5_1 : Int).toNat a0.size) t101 t102 _ ?side1 A5.out).mono ?_); (case side1 => refine Glob.below HG.out ?_; repeat (first | (with_reducible first | exact HB.out | apply below_alloc | apply pw_below_drewN | apply below_drew1) | exact HB.out)); rintro e w42 ⟨rfl, hb⟩; have n0_ := Aside0.mk (below_step (by repeat (first | (with_reducible first | exact HB.out | apply below_alloc | apply pw_below_drewN | apply below_drew1) | exact HB.out)) hb); clear HB; have HB := n0_; clear n0_; (try clear hb); (try clear hb2); (try clear hk); (try clear hi)) | (go_at_call 77; (with_reducible refine (glyph_Part.calls (wrap64 (t101)) true _ A37.out).mono ?_); rintro e w43 ⟨rfl, hb⟩; have n0_ := Aside0.mk (below_step (by repeat (first | (with_reducible first | exact HB.out | apply below_alloc | apply pw_below_drewN | apply below_drew1) | exact HB.out)) hb); clear HB; have HB := n0_; clear n0_; (try clear hb); (try clear hb2); (try clear hk); (try clear hi)) | (go_at_call 78; (with_reducible refine (glyph_Start.calls (wrap64 (t101)) true _ A40.out).mono ?_); rintro e w44 ⟨rfl, hb⟩; have n0_ := Aside0.mk (below_step (by repeat (first | (with_reducible first | exact HB.out | apply below_alloc | apply pw_below_drewN | apply below_drew1) | exact HB.out)) hb); clear HB; have HB := n0_; clear n0_; (try clear hb); (try clear hb2); (try clear hk); (try clear hi)))
           repeat (go_quiet (first | (go_at_call 76; (with_reducible refine (utf8_DecodeRuneInString.calls (a0.extract (x5_1 : Int).toNat a0.size) t101 t102 _ ?side1 A5.out).mono ?_); (case side1 => refine Glob.below HG.out ?_; repeat (first | (with_reducible first | exact HB.out | apply below_alloc | apply pw_below_drewN | apply below_drew1) | exact HB.out)); rintro e w42 ⟨rfl, hb⟩; have n0_ := Aside0.mk (below_step (by repeat (first | (with_reducible first | exact HB.out | apply below_alloc | apply pw_below_drewN | apply below_drew1) | exact HB.out)) hb); clear HB; have HB := n0_; clear n0_; (try clear hb); (try clear hb2); (try clear hk); (try clear hi)) | (go_at_call 77; (with_reducible refine (glyph_Part.calls (wrap64 (t101)) true _ A37.out).mono ?_); rintro e w43 ⟨rfl, hb⟩; have n0_ := Aside0.mk (below_step (by repeat (first | (with_reducible first | exact HB.out | apply below_alloc | apply pw_below_drewN | apply below_drew1) | exact HB.out)) hb); clear HB; have HB := n0_; clear n0_; (try clear hb); (try clear hb2); (try clear hk); (try clear hi)) | (go_at_call 78; (with_reducible refine (glyph_Start.calls (wrap64 (t101)) true _ A40.out).mono ?_); rintro e w44 ⟨rfl, hb⟩; have n0_ := Aside0.mk (below_step (by repeat (first | (with_reducible first | exact HB.out | apply below_alloc | apply pw_below_drewN | apply below_drew1) | exact HB.out)) hb); clear HB; have HB := n0_; clear n0_; (try clear hb); (try clear hb2); (try clear hk); (try clear hi))); try go_wp2_with (first | (go_at_call 76; (with_reducible refine (utf8_DecodeRuneInString.calls (a0.extract (x5_1 : Int).toNat a0.size) t101 t102 _ ?side1 A5.out).mono ?_); (case side1 => refine Glob.below HG.out ?_; repeat (first | (with_reducible first | exact HB.out | apply below_alloc | apply pw_below_drewN | apply below_drew1) | exact HB.out)); rintro e w42 ⟨rfl, hb⟩; have n0_ := Aside0.mk (below_step (by repeat (first | (with_reducible first | exact HB.out | apply below_alloc | apply pw_below_drewN | apply below_drew1) | exact HB.out)) hb); clear HB; have HB := n0_; clear n0_; (try clear hb); (try clear hb2); (try clear hk); (try clear hi)) | (go_at_call 77; (with_reducible refine (glyph_Part.calls (wrap64 (t101)) true _ A37.out).mono ?_); rintro e w43 ⟨rfl, hb⟩; have n0_ := Aside0.mk (below_step (by repeat (first | (with_reducible first | exact HB.out | apply below_alloc | apply pw_below_drewN | apply below_drew1) | exact HB.out)) hb); clear HB; have HB := n0_; clear n0_; (try clear hb); (try clear hb2); (try clear hk); (try clear hi)) | (go_at_call 78; (with_reducible refine (glyph_Start.calls (wrap64 (t101)) true _ A40.out).mono ?_); rintro e w44 ⟨rfl, hb⟩; have n0_ := Aside0.mk (below_step (by repeat (first | (with_reducible first | exact HB.out | apply below_alloc | apply pw_below_drewN | apply below_drew1) | exact HB.out)) hb); clear HB; have HB := n0_; clear n0_; (try clear hb); (try clear hb2); (try clear hk); (try clear hi))))
           go_roundg k1
           case measure => have := HK1.out; omega
           case rel => exact ⟨(wrap64 (x5_1 + t102)), (by first | rfl | (simp; done) | (simp [*]; done) | (simp [xx_ne_nil, xx_eq_nil]; done) | (simp [*, xx_ne_nil, xx_eq_nil]; done)), H', ⟨by have := HK1.out; omega⟩, ⟨by repeat (first | (with_reducible first | exact HB.out | apply below_alloc | apply pw_below_drewN | apply below_drew1) | exact HB.out)⟩⟩
          ·replace c41 := Bool.eq_false_iff.mpr c41
           subst c41
           have H1 : (some ((⟨#[]⟩ : ByteArray), (⟨#[]⟩ : ByteArray), 51)) = some (r1, r2, r3) := by rw [if_neg (show ¬ (false = true) by decide)] at H; exact H
           clear H
           have H := H1
           clear H1
           simp only [Option.some.injEq, Prod.mk.injEq] at H
           obtain ⟨rfl, rfl, rfl⟩ := H
           go_wp2_with (first | (go_at_call 76; (with_reducible refine (utf8_DecodeRuneInString.calls (a0.extract (x5_1 : Int).toNat a0.size) t101 t102 _ ?side1 A5.out).mono ?_); (case side1 => refine Glob.below HG.out ?_; repeat (first | (with_reducible first | exact HB.out | apply below_alloc | apply pw_below_drewN | apply below_drew1) | exact HB.out)); rintro e w45 ⟨rfl, hb⟩; have n0_ := Aside0.mk (below_step (by repeat (first | (with_reducible first | exact HB.out | apply below_alloc | apply pw_below_drewN | apply below_drew1) | exact HB.out)) hb); clear HB; have HB := n0_; clear n0_; (try clear hb); (try clear hb2); (try clear hk); (try clear hi)) | (go_at_call 77; (with_reducible refine (glyph_Part.calls (wrap64 (t101)) true _ A37.out).mono ?_); rintro e w46 ⟨rfl, hb⟩; have n0_ := Aside0.mk (below_step (by repeat (first | (with_reducible first | exact HB.out | apply below_alloc | apply pw_below_drewN | apply below_drew1) | exact HB.out)) hb); clear HB; have HB := n0_; clear n0_; (try clear hb); (try clear hb2); (try clear hk); (try clear hi)) | (go_at_call 78; (with_reducible refine (glyph_Start.calls (wrap64 (t101)) false _ A40.out).mono ?_); rintro e w47 ⟨rfl, hb⟩; have n0_ := Aside0.mk (below_step (by repeat (first | (with_reducible first | exact HB.out | apply below_alloc | apply pw_below_drewN | apply below_drew1) | exact HB.out)) hb); clear HB; have HB := n0_; clear n0_; (try clear hb); (try clear hb2); (try clear hk); (try clear hi)))
           repeat (go_quiet (first | (go_at_call 76; (with_reducible refine (utf8_DecodeRuneInString.calls (a0.extract (x5_1 : Int).toNat a0.size) t101 t102 _ ?side1 A5.out).mono ?_); (case side1 => refine Glob.below HG.out ?_; repeat (first | (with_reducible first | exact HB.out | apply below_alloc | apply pw_below_drewN | apply below_drew1) | exact HB.out)); rintro e w45 ⟨rfl, hb⟩; have n0_ := Aside0.mk (below_step (by repeat (first | (with_reducible first | exact HB.out | apply below_alloc | apply pw_below_drewN | apply below_drew1) | exact HB.out)) hb); clear HB; have HB := n0_; clear n0_; (try clear hb); (try clear hb2); (try clear hk); (try clear hi)) | (go_at_call 77; (with_reducible refine (glyph_Part.calls (wrap64 (t101)) true _ A37.out).mono ?_); rintro e w46 ⟨rfl, hb⟩; have n0_ := Aside0.mk (below_step (by repeat (first | (with_reducible first | exact HB.out | apply below_alloc | apply pw_below_drewN | apply below_drew1) | exact HB.out)) hb); clear HB; have HB := n0_; clear n0_; (try clear hb); (try clear hb2); (try clear hk); (try clear hi)) | (go_at_call 78; (with_reducible refine (glyph_Start.calls (wrap64 (t101)) false _ A40.out).mono ?_); rintro e w47 ⟨rfl, hb⟩; have n0_ := Aside0.mk (below_step (by repeat (first | (with_reducible first | exact HB.out | apply below_alloc | apply pw_below_drewN | apply below_drew1) | exact HB.out)) hb); clear HB; have HB := n0_; clear n0_; (try clear hb); (try clear hb2); (try clear hk); (try clear hi))); try go_wp2_with (first | (go_at_call 76; (with_reducible refine (utf8_DecodeRuneInString.calls (a0.extract (x5_1 : Int).toNat a0.size) t101 t102 _ ?side1 A5.out).mono ?_); (case side1 => refine Glob.below HG.out ?_; repeat (first | (with_reducible first | exact HB.out | apply below_alloc | apply pw_below_drewN | apply below_drew1) | exact HB.out)); rintro e w45 ⟨rfl, hb⟩; have n0_ := Aside0.mk (below_step (by repeat (first | (with_reducible first | exact HB.out | apply below_alloc | apply pw_below_drewN | apply below_drew1) | exact HB.out)) hb); clear HB; have HB := n0_; clear n0_; (try clear hb); (try clear hb2); (try clear hk); (try clear hi)) | (go_at_call 77; (with_reducible refine (glyph_Part.calls (wrap64 (t101)) true _ A37.out).mono ?_); rintro e w46 ⟨rfl, hb⟩; have n0_ := Aside0.mk (below_step (by repeat (first | (with_reducible first | exact HB.out | apply below_alloc | apply pw_below_drewN | apply below_drew1) | exact HB.out)) hb); clear HB; have HB := n0_; clear n0_; (try clear hb); (try clear hb2); (try clear hk); (try clear hi)) | (go_at_call 78; (with_reducible refine (glyph_Start.calls (wrap64 (t101)) false _ A40.out).mono ?_); rintro e w47 ⟨rfl, hb⟩; have n0_ := Aside0.mk (below_step (by repeat (first | (with_reducible first | exact HB.out | apply below_alloc | apply pw_below_drewN | apply below_drew1) | exact HB.out)) hb); clear HB; have HB := n0_; clear n0_; (try clear hb); (try clear hb2); (try clear hk); (try clear hi))))
           go_ret3
           exact ⟨by first | rfl | (simp [errW_none, errW_some] <;> rfl) | (simp [*, errW_none, errW_some] <;> rfl), by repeat (first | (with_reducible first | exact HB.out | apply below_alloc | apply pw_below_drewN | apply below_drew1) | exact HB.out)⟩
         ·rw [if_neg c39] at H
          have c39b0 : (x5_1 == 0) = false := beq_eq_false_iff_ne.mpr c39
          have c39b1 : (x5_1 != 0) = true := bne_iff_ne.mpr c39
          have H' := Aside0.mk H
          clear H
          go_wp2_with (first | (go_at_call 76; (with_reducible refine (utf8_DecodeRuneInString.calls (a0.extract (x5_1 : Int).toNat a0.size) t101 t102 _ ?side1 A5.out).mono ?_); (case side1 => refine Glob.below HG.out ?_; repeat (first | (with_reducible first | exact HB.out | apply below_alloc | apply pw_below_drewN | apply below_drew1) | exact HB.out)); rintro e w48 ⟨rfl, hb⟩; have n0_ := Aside0.mk (below_step (by repeat (first | (with_reducible first | exact HB.out | apply below_alloc | apply pw_below_drewN | apply below_drew1) | exact HB.out)) hb); clear HB; have HB := n0_; clear n0_; (try clear hb); (try clear hb2); (try clear hk); (try clear hi)) | (go_at_call 77; (with_reducible refine (glyph_Part.calls (wrap64 (t101)) true _ A37.out).mono ?_); rintro e w49 ⟨rfl, hb⟩; have n0_ := Aside0.mk (below_step (by repeat (first | (with_reducible first | exact HB.out | apply below_alloc | apply pw_below_drewN | apply below_drew1) | exact HB.out)) hb); clear HB; have HB := n0_; clear n0_; (try clear hb); (try clear hb2); (try clear hk); (try clear hi)))
          repeat (go_quiet (first | (go_at_call 76; (with_reducible refine (utf8_DecodeRuneInString.calls (a0.extract (x5_1 : Int).toNat a0.size) t101 t102 _ ?side1 A5.out).mono ?_); (case side1 => refine Glob.below HG.out ?_; repeat (first | (with_reducible first | exact HB.out | apply below_alloc | apply pw_below_drewN | apply below_drew1) | exact HB.out)); rintro e w48 ⟨rfl, hb⟩; have n0_ := Aside0.mk (below_step (by repeat (first | (with_reducible first | exact HB.out | apply below_alloc | apply pw_below_drewN | apply below_drew1) | exact HB.out)) hb); clear HB; have HB := n0_; clear n0_; (try clear hb); (try clear hb2); (try clear hk); (try clear hi)) | (go_at_call 77; (with_reducible refine (glyph_Part.calls (wrap64 (t101)) true _ A37.out).mono ?_); rintro e w49 ⟨rfl, hb⟩; have n0_ := Aside0.mk (below_step (by repeat (first | (with_reducible first | exact HB.out | apply below_alloc | apply pw_below_drewN | apply below_drew1) | exact HB.out)) hb); clear HB; have HB := n0_; clear n0_; (try clear hb); (try clear hb2); (try clear hk); (try clear hi))); try go_wp2_with (first | (go_at_call 76; (with_reducible refine (utf8_DecodeRuneInString.calls (a0.extract (x5_1 : Int).toNat a0.size) t101 t102 _ ?side1 A5.out).mono ?_); (case side1 => refine Glob.below HG.out ?_; repeat (first | (with_reducible first | exact HB.out | apply below_alloc | apply pw_below_drewN | apply below_drew1) | exact HB.out)); rintro e w48 ⟨rfl, hb⟩; have n0_ := Aside0.mk (below_step (by repeat (first | (with_reducible first | exact HB.out | apply below_alloc | apply pw_below_drewN | apply below_drew1) | exact HB.out)) hb); clear HB; have HB := n0_; clear n0_; (try clear hb); (try clear hb2); (try clear hk); (try clear hi)) | (go_at_call 77; (with_reducible refine (glyph_Part.calls (wrap64 (t101)) true _ A37.out).mono ?_); rintro e w49 ⟨rfl, hb⟩; have n0_ := Aside0.mk (below_step (by repeat (first | (with_reducible first | exact HB.out | apply below_alloc | apply pw_below_drewN | apply below_drew1) | exact HB.out)) hb); clear HB; have HB := n0_; clear n0_; (try clear hb); (try clear hb2); (try clear hk); (try clear hi))))
          go_roundg k1
          case measure => have := HK1.out; omega
          case rel => exact ⟨(wrap64 (x5_1 + t102)), (by first | rfl | (simp; done) | (simp [*]; done) | (simp [xx_ne_nil, xx_eq_nil]; done) | (simp [*, xx_ne_nil, xx_eq_nil]; done)), H', ⟨by have := HK1.out; omega⟩, ⟨by repeat (first | (with_reducible first | exact HB.out | apply below_alloc | apply pw_below_drewN | apply below_drew1) | exact HB.out)⟩⟩
        ·replace c38 := Bool.eq_false_iff.mpr c38
         subst c38
         have H1 : (if x5_1 = 0 then (some ((⟨#[]⟩ : ByteArray), (⟨#[]⟩ : ByteArray), 51)) else (some (a0.extract 0 (x5_1 : Int).toNat, a0.extract (x5_1 : Int).toNat a0.size, 0))) = some (r1, r2, r3) := by rw [if_neg (show ¬ (false = true) by decide)] at H; exact H
         clear H
         have H := H1
         clear H1
         by_cases c50 : x5_1 = 0
         ·rw [if_pos c50] at H
          have c50b0 : (x5_1 == 0) = true := beq_iff_eq.mpr c50
          have c50b1 : (x5_1 != 0) = false := bne_eq_false_iff_eq.mpr c50
          clear c50
          simp only [Option.some.injEq, Prod.mk.injEq] at H
          obtain ⟨rfl, rfl, rfl⟩ := H
          go_wp2_with (first | (go_at_call 76; (with_reducible refine (utf8_DecodeRuneInString.calls (a0.extract (x5_1 : Int).toNat a0.size) t101 t102 _ ?side1 A5.out).mono ?_); (case side1 => refine Glob.below HG.out ?_; repeat (first | (with_reducible first | exact HB.out | apply below_alloc | apply pw_below_drewN | apply below_drew1) | exact HB.out)); rintro e w51 ⟨rfl, hb⟩; have n0_ := Aside0.mk (below_step (by repeat (first | (with_reducible first | exact HB.out | apply below_alloc | apply pw_below_drewN | apply below_drew1) | exact HB.out)) hb); clear HB; have HB := n0_; clear n0_; (try clear hb); (try clear hb2); (try clear hk); (try clear hi)) | (go_at_call 77; (with_reducible refine (glyph_Part.calls (wrap64 (t101)) false _ A37.out).mono ?_); rintro e w52 ⟨rfl, hb⟩; have n0_ := Aside0.mk (below_step (by repeat (first | (with_reducible first | exact HB.out | apply below_alloc | apply pw_below_drewN | apply below_drew1) | exact HB.out)) hb); clear HB; have HB := n0_; clear n0_; (try clear hb); (try clear hb2); (try clear hk); (try clear hi)))
          repeat (go_quiet (first | (go_at_call 76; (with_reducible refine (utf8_DecodeRuneInString.calls (a0.extract (x5_1 : Int).toNat a0.size) t101 t102 _ ?side1 A5.out).mono ?_); (case side1 => refine Glob.below HG.out ?_; repeat (first | (with_reducible first | exact HB.out | apply below_alloc | apply pw_below_drewN | apply below_drew1) | exact HB.out)); rintro e w51 ⟨rfl, hb⟩; have n0_ := Aside0.mk (below_step (by repeat (first | (with_reducible first | exact HB.out | apply below_alloc | apply pw_below_drewN | apply below_drew1) | exact HB.out)) hb); clear HB; have HB := n0_; clear n0_; (try clear hb); (try clear hb2); (try clear hk); (try clear hi)) | (go_at_call 77; (with_reducible refine (glyph_Part.calls (wrap64 (t101)) false _ A37.out).mono ?_); rintro e w52 ⟨rfl, hb⟩; have n0_ := Aside0.mk (below_step (by repeat (first | (with_reducible first | exact HB.out | apply below_alloc | apply pw_below_drewN | apply below_drew1) | exact HB.out)) hb); clear HB; have HB := n0_; clear n0_; (try clear hb); (try clear hb2); (try clear hk); (try clear hi))); try go_wp2_with (first | (go_at_call 76; (with_reducible refine (utf8_DecodeRuneInString.calls (a0.extract (x5_1 : Int).toNat a0.size) t101 t102 _ ?side1 A5.out).mono ?_); (case side1 => refine Glob.below HG.out ?_; repeat (first | (with_reducible first | exact HB.out | apply below_alloc | apply pw_below_drewN | apply below_drew1) | exact HB.out)); rintro e w51 ⟨rfl, hb⟩; have n0_ := Aside0.mk (below_step (by repeat (first | (with_reducible first | exact HB.out | apply below_alloc | apply pw_below_drewN | apply below_drew1) | exact HB.out)) hb); clear HB; have HB := n0_; clear n0_; (try clear hb); (try clear hb2); (try clear hk); (try clear hi)) | (go_at_call 77; (with_reducible refine (glyph_Part.calls (wrap64 (t101)) false _ A37.out).mono ?_); rintro e w52 ⟨rfl, hb⟩; have n0_ := Aside0.mk (below_step (by repeat (first | (with_reducible first | exact HB.out | apply below_alloc | apply pw_below_drewN | apply below_drew1) | exact HB.out)) hb); clear HB; have HB := n0_; clear n0_; (try clear hb); (try clear hb2); (try clear hk); (try clear hi))))
          go_ret3
          exact ⟨by first | rfl | (simp [errW_none, errW_some] <;> rfl) | (simp [*, errW_none, errW_some] <;> rfl), by repeat (first | (with_reducible first | exact HB.out | apply below_alloc | apply pw_below_drewN | apply below_drew1) | exact HB.out)⟩
         ·rw [if_neg c50] at H
          have c50b0 : (x5_1 == 0) = false := beq_eq_false_iff_ne.mpr c50
          have c50b1 : (x5_1 != 0) = true := bne_iff_ne.mpr c50
          have c53b0 := eq_true (of_decide_eq_true (by first | (with_reducible assumption) | assumption) : 0 ≤ x5_1)
          have c54b0 := eq_true (of_decide_eq_true (by first | (with_reducible assumption) | assumption) : x5_1 ≤ (a0.size : Int))
          have c55b0 := eq_true (of_decide_eq_true (by first | (with_reducible assumption) | assumption) : 0 ≤ x5_1)
          have c56b0 := eq_true (of_decide_eq_true (by first | (with_reducible assumption) | assumption) : x5_1 ≤ (a0.size : Int))
          simp only [Option.some.injEq, Prod.mk.injEq] at H
          obtain ⟨rfl, rfl, rfl⟩ := H
          go_wp2_with (first | (go_at_call 76; (with_reducible refine (utf8_DecodeRuneInString.calls (a0.extract (x5_1 : Int).toNat a0.size) t101 t102 _ ?side1 A5.out).mono ?_); (case side1 => refine Glob.below HG.out ?_; repeat (first | (with_reducible first | exact HB.out | apply below_alloc | apply pw_below_drewN | apply below_drew1) | exact HB.out)); rintro e w57 ⟨rfl, hb⟩; have n0_ := Aside0.mk (below_step (by repeat (first | (with_reducible first | exact HB.out | apply below_alloc | apply pw_below_drewN | apply below_drew1) | exact HB.out)) hb); clear HB; have HB := n0_; clear n0_; (try clear hb); (try clear hb2); (try clear hk); (try clear hi)) | (go_at_call 77; (with_reducible refine (glyph_Part.calls (wrap64 (t101)) false _ A37.out).mono ?_); rintro e w58 ⟨rfl, hb⟩; have n0_ := Aside0.mk (below_step (by repeat (first | (with_reducible first | exact HB.out | apply below_alloc | apply pw_below_drewN | apply below_drew1) | exact HB.out)) hb); clear HB; have HB := n0_; clear n0_; (try clear hb); (try clear hb2); (try clear hk); (try clear hi)))
          repeat (go_quiet (first | (go_at_call 76; (with_reducible refine (utf8_DecodeRuneInString.calls (a0.extract (x5_1 : Int).toNat a0.size) t101 t102 _ ?side1 A5.out).mono ?_); (case side1 => refine Glob.below HG.out ?_; repeat (first | (with_reducible first | exact HB.out | apply below_alloc | apply pw_below_drewN | apply below_drew1) | exact HB.out)); rintro e w57 ⟨rfl, hb⟩; have n0_ := Aside0.mk (below_step (by repeat (first | (with_reducible first | exact HB.out | apply below_alloc | apply pw_below_drewN | apply below_drew1) | exact HB.out)) hb); clear HB; have HB := n0_; clear n0_; (try clear hb); (try clear hb2); (try clear hk); (try clear hi)) | (go_at_call 77; (with_reducible refine (glyph_Part.calls (wrap64 (t101)) false _ A37.out).mono ?_); rintro e w58 ⟨rfl, hb⟩; have n0_ := Aside0.mk (below_step (by repeat (first | (with_reducible first | exact HB.out | apply below_alloc | apply pw_below_drewN | apply below_drew1) | exact HB.out)) hb); clear HB; have HB := n0_; clear n0_; (try clear hb); (try clear hb2); (try clear hk); (try clear hi))); try go_wp2_with (first | (go_at_call 76; (with_reducible refine (utf8_DecodeRuneInString.calls (a0.extract (x5_1 : Int).toNat a0.size) t101 t102 _ ?side1 A5.out).mono ?_); (case side1 => refine Glob.below HG.out ?_; repeat (first | (with_reducible first | exact HB.out | apply below_alloc | apply pw_below_drewN | apply below_drew1) | exact HB.out)); rintro e w57 ⟨rfl, hb⟩; have n0_ := Aside0.mk (below_step (by repeat (first | (with_reducible first | exact HB.out | apply below_alloc | apply pw_below_drewN | apply below_drew1) | exact HB.out)) hb); clear HB; have HB := n0_; clear n0_; (try clear hb); (try clear hb2); (try clear hk); (try clear hi)) | (go_at_call 77; (with_reducible refine (glyph_Part.calls (wrap64 (t101)) false _ A37.out).mono ?_); rintro e w58 ⟨rfl, hb⟩; have n0_ := Aside0.mk (below_step (by repeat (first | (with_reducible first | exact HB.out | apply below_alloc | apply pw_below_drewN | apply below_drew1) | exact HB.out)) hb); clear HB; have HB := n0_; clear n0_; (try clear hb); (try clear hb2); (try clear hk); (try clear hi))))
          go_ret3
          exact ⟨by first | rfl | (simp [errW_none, errW_some] <;> rfl) | (simp [*, errW_none, errW_some] <;> rfl), by repeat (first | (with_reducible first | exact HB.out | apply below_alloc | apply pw_below_drewN | apply below_drew1) | exact HB.out)⟩
      ·rw [if_neg c4] at H
       exact absurd H (by simp)
     ·rw [if_neg c3] at H
      exact absurd H (by simp)
    ·rw [if_neg c2] at H
     have c2b0 : decide (x5_1 < (a0.size : Int)) = false := decide_eq_false c2
     clear c2
     by_cases c59 : x5_1 = 0
     ·rw [if_pos c59] at H
      have c59b0 : (x5_1 == 0) = true := beq_iff_eq.mpr c59
      have c59b1 : (x5_1 != 0) = false := bne_eq_false_iff_eq.mpr c59
      clear c59
      simp only [Option.some.injEq, Prod.mk.injEq] at H
      obtain ⟨rfl, rfl, rfl⟩ := H
      go_wp2
      repeat (go_quiet (fail); try go_wp2)
      go_ret3
      exact ⟨by first | rfl | (simp [errW_none, errW_some] <;> rfl) | (simp [*, errW_none, errW_some] <;> rfl), by repeat (first | (with_reducible first | exact HB.out | apply below_alloc | apply pw_below_drewN | apply below_drew1) | exact HB.out)⟩
     ·rw [if_neg c59] at H
      have c59b0 : (x5_1 == 0) = false := beq_eq_false_iff_ne.mpr c59
      have c59b1 : (x5_1 != 0) = true := bne_iff_ne.mpr c59
      by_cases c60 : 0 ≤ x5_1
      ·rw [if_pos c60] at H
       have c60b0 := eq_true c60
       have c60b1 : decide (0 ≤ x5_1) = true := decide_eq_true c60
       clear c60
       by_cases c61 : x5_1 ≤ (a0.size : Int)
       ·rw [if_pos c61] at H
        have c61b0 := eq_true c61
        have c61b1 : decide (x5_1 ≤ (a0.size : Int)) = true := decide_eq_true c61
        clear c61
        have c62b0 := eq_true (of_decide_eq_true (by first | (with_reducible assumption) | assumption) : 0 ≤ x5_1)
        have c63b0 := eq_true (of_decide_eq_true (by first | (with_reducible assumption) | assumption) : x5_1 ≤ (a0.size : Int))
        simp only [Option.some.injEq, Prod.mk.injEq] at H
        obtain ⟨rfl, rfl, rfl⟩ := H
        go_wp2
        repeat (go_quiet (fail); try go_wp2)
        go_ret3
        exact ⟨by first | rfl | (simp [errW_none, errW_some] <;> rfl) | (simp [*, errW_none, errW_some] <;> rfl), by repeat (first | (with_reducible first | exact HB.out | apply below_alloc | apply pw_below_drewN | apply below_drew1) | exact HB.out)⟩
       ·rw [if_neg c61] at H
        exact absurd H (by simp)
      ·rw [if_neg c60] at H
       exact absurd H (by simp)
def glyph_Plain.f (k : Nat) (a0 : ByteArray) : Option (Bool) := (glyph_Name.f k a0).bind fun bt107 => (if bt107.2.2 = 0 then (if bt107.2.1.toList = ([] : List UInt8) then ((strings_Contains.f a0 (⟨#[58]⟩ : ByteArray)).bind fun t110 => (some (!t110))) else (some false)) else (some false))
set_option maxHeartbeats 8000000 in
set_option maxRecDepth 100000 in
theorem glyph_Plain.calls (k : Nat) (a0 : ByteArray) (r : Bool) (w : World) (hG : Glob w) (h : glyph_Plain.f k a0 = some r) :
  Calls Tryz.prog 22 #[.string a0] w fun e w' => e = .returned (.bool r) ∧ Below w.heap.size w w' := by
 have HG := Aside0.mk hG
 clear hG
 have HB := Aside0.mk (Below.refl w.heap.size w)
 have H : ((glyph_Name.f k a0).bind fun bt107 => (if bt107.2.2 = 0 then (if bt107.2.1.toList = ([] : List UInt8) then ((strings_Contains.f a0 (⟨#[58]⟩ : ByteArray)).bind fun t110 => (some (!t110))) else (some false)) else (some false))) = some r := h
 clear h
 replace H := Option.bind_eq_some_iff.mp H
 obtain ⟨⟨t107, t108, t109⟩, A20, H⟩ := H
 replace H : (if t109 = 0 then (if t108.toList = ([] : List UInt8) then ((strings_Contains.f a0 (⟨#[58]⟩ : ByteArray)).bind fun t110 => (some (!t110))) else (some false)) else (some false)) = some r := H
 have A2 := Aside0.mk A20
 clear A20
 by_cases c3 : t109 = 0
 ·rw [if_pos c3] at H
  have c3b0 : (t109 == 0) = true := beq_iff_eq.mpr c3
  have c3b1 : (t109 != 0) = false := bne_eq_false_iff_eq.mpr c3
  clear c3
  by_cases c4 : t108.toList = ([] : List UInt8)
  ·rw [if_pos c4] at H
   have c4b0 : (t108.toList == ([] : List UInt8)) = true := beq_iff_eq.mpr c4
   have c4b1 : (t108.toList != ([] : List UInt8)) = false := bne_eq_false_iff_eq.mpr c4
   have c4b2 : (t108.toList).isEmpty = true := List.isEmpty_iff.mpr c4
   have c4b3 : (!(t108.toList).isEmpty) = false := by rw [c4b2]; rfl
   clear c4
   replace H := Option.bind_eq_some_iff.mp H
   obtain ⟨t110, A50, H⟩ := H
   replace H : (some (!t110)) = some r := H
   have A5 := Aside0.mk A50
   clear A50
   obtain rfl := Option.some.inj H
   go_enter Tryz.func22, Tryz.ntmps22
   go_wp2_with (first | ((with_reducible refine gate_callee (f := 44) rfl ?_); refine goesL_ (some 8) rfl rfl Tryz.func44 (by kernel_rfl) rfl #[.string a0] rfl (by (try simp only [List.map_toArray, List.map_cons, List.map_nil]); first | done | rfl | (simp only [List.length_drop, List.length_take]; rfl)) ?_; (with_reducible refine (glyph_Name.calls k a0 t107 t108 t109 _ ?side1 A2.out).mono ?_); (case side1 => refine Glob.below HG.out ?_; repeat (first | (with_reducible first | exact HB.out | apply below_alloc | apply pw_below_drewN | apply below_drew1) | exact HB.out)); rintro e w6 ⟨rfl, hb⟩; refine ⟨_, rfl, ?_⟩; have n0_ := Aside0.mk (below_step (by repeat (first | (with_reducible first | exact HB.out | apply below_alloc | apply pw_below_drewN | apply below_drew1) | exact HB.out)) hb); clear HB; have HB := n0_; clear n0_; (try clear hb); (try clear hb2); (try clear hk); (try clear hi)) | (go_at_call 41; (with_reducible refine (strings_Contains.calls a0 (⟨#[58]⟩ : ByteArray) t110 _ ?side1 A5.out).mono ?_); (case side1 => refine Glob.below HG.out ?_; repeat (first | (with_reducible first | exact HB.out | apply below_alloc | apply pw_below_drewN | apply below_drew1) | exact HB.out)); rintro e w7 ⟨rfl, hb⟩; have n0_ := Aside0.mk (below_step (by repeat (first | (with_reducible first | exact HB.out | apply below_alloc | apply pw_below_drewN | apply below_drew1) | exact HB.out)) hb); clear HB; have HB := n0_; clear n0_; (try clear hb); (try clear hb2); (try clear hk); (try clear hi)))
   all_goals try (exact absurd (by assumption : (!(t108.toList).isEmpty) = true) (by rw [c4b2]; decide))
   go_ret
   exact ⟨by first | rfl | (simp [errW_none, errW_some] <;> rfl) | (simp [*, errW_none, errW_some] <;> rfl), by repeat (first | (with_reducible first | exact HB.out | apply below_alloc | apply pw_below_drewN | apply below_drew1) | exact HB.out)⟩
  ·rw [if_neg c4] at H
   have c4b0 : (t108.toList == ([] : List UInt8)) = false := beq_eq_false_iff_ne.mpr c4
   have c4b1 : (t108.toList != ([] : List UInt8)) = true := bne_iff_ne.mpr c4
   have c4b2 : (t108.toList).isEmpty = false := List.isEmpty_eq_false_iff.mpr c4
   have c4b3 : (!(t108.toList).isEmpty) = true := by rw [c4b2]; rfl
   obtain rfl := Option.some.inj H
   go_enter Tryz.func22, Tryz.ntmps22
   go_wp2_with (first | ((with_reducible refine gate_callee (f := 44) rfl ?_); refine goesL_ (some 8) rfl rfl Tryz.func44 (by kernel_rfl) rfl #[.string a0] rfl (by (try simp only [List.map_toArray, List.map_cons, List.map_nil]); first | done | rfl | (simp only [List.length_drop, List.length_take]; rfl)) ?_; (with_reducible refine (glyph_Name.calls k a0 t107 t108 t109 _ ?side1 A2.out).mono ?_); (case side1 => refine Glob.below HG.out ?_; repeat (first | (with_reducible first | exact HB.out | apply below_alloc | apply pw_below_drewN | apply below_drew1) | exact HB.out)); rintro e w8 ⟨rfl, hb⟩; refine ⟨_, rfl, ?_⟩; have n0_ := Aside0.mk (below_step (by repeat (first | (with_reducible first | exact HB.out | apply below_alloc | apply pw_below_drewN | apply below_drew1) | exact HB.out)) hb); clear HB; have HB := n0_; clear n0_; (try clear hb); (try clear hb2); (try clear hk); (try clear hi)))
   all_goals try (exact absurd (by assumption : (!(t108.toList).isEmpty) = false) (by rw [c4b2]; decide))
   go_ret
   exact ⟨by first | rfl | (simp [errW_none, errW_some] <;> rfl) | (simp [*, errW_none, errW_some] <;> rfl), by repeat (first | (with_reducible first | exact HB.out | apply below_alloc | apply pw_below_drewN | apply below_drew1) | exact HB.out)⟩
 ·rw [if_neg c3] at H
  have c3b0 : (t109 == 0) = false := beq_eq_false_iff_ne.mpr c3
  have c3b1 : (t109 != 0) = true := bne_iff_ne.mpr c3
  obtain rfl := Option.some.inj H
  go_enter Tryz.func22, Tryz.ntmps22
  go_wp2_with (first | ((with_reducible refine gate_callee (f := 44) rfl ?_); refine goesL_ (some 8) rfl rfl Tryz.func44 (by kernel_rfl) rfl #[.string a0] rfl (by (try simp only [List.map_toArray, List.map_cons, List.map_nil]); first | done | rfl | (simp only [List.length_drop, List.length_take]; rfl)) ?_; (with_reducible refine (glyph_Name.calls k a0 t107 t108 t109 _ ?side1 A2.out).mono ?_); (case side1 => refine Glob.below HG.out ?_; repeat (first | (with_reducible first | exact HB.out | apply below_alloc | apply pw_below_drewN | apply below_drew1) | exact HB.out)); rintro e w9 ⟨rfl, hb⟩; refine ⟨_, rfl, ?_⟩; have n0_ := Aside0.mk (below_step (by repeat (first | (with_reducible first | exact HB.out | apply below_alloc | apply pw_below_drewN | apply below_drew1) | exact HB.out)) hb); clear HB; have HB := n0_; clear n0_; (try clear hb); (try clear hb2); (try clear hk); (try clear hi)))
  go_ret
  exact ⟨by first | rfl | (simp [errW_none, errW_some] <;> rfl) | (simp [*, errW_none, errW_some] <;> rfl), by repeat (first | (with_reducible first | exact HB.out | apply below_alloc | apply pw_below_drewN | apply below_drew1) | exact HB.out)⟩
def glyph_Lines.f (a0 : ByteArray) : Option (ByteArray) := (strings_ReplaceAll.f a0 (⟨#[13, 10]⟩ : ByteArray) (⟨#[10]⟩ : ByteArray)).bind fun t150 => ((strings_ReplaceAll.f t150 (⟨#[13]⟩ : ByteArray) (⟨#[10]⟩ : ByteArray)).bind fun t151 => (some t151))
set_option maxHeartbeats 8000000 in
set_option maxRecDepth 100000 in
theorem glyph_Lines.calls (a0 : ByteArray) (r : ByteArray) (w : World) (hG : Glob w) (h : glyph_Lines.f a0 = some r) :
  Calls Tryz.prog 33 #[.string a0] w fun e w' => e = .returned (.string r) ∧ Below w.heap.size w w' := by
 have HG := Aside0.mk hG
 clear hG
 have HB := Aside0.mk (Below.refl w.heap.size w)
 have H : ((strings_ReplaceAll.f a0 (⟨#[13, 10]⟩ : ByteArray) (⟨#[10]⟩ : ByteArray)).bind fun t150 => ((strings_ReplaceAll.f t150 (⟨#[13]⟩ : ByteArray) (⟨#[10]⟩ : ByteArray)).bind fun t151 => (some t151))) = some r := h
 clear h
 replace H := Option.bind_eq_some_iff.mp H
 obtain ⟨t150, A20, H⟩ := H
 replace H : ((strings_ReplaceAll.f t150 (⟨#[13]⟩ : ByteArray) (⟨#[10]⟩ : ByteArray)).bind fun t151 => (some t151)) = some r := H
 have A2 := Aside0.mk A20
 clear A20
 replace H := Option.bind_eq_some_iff.mp H
 obtain ⟨t151, A30, H⟩ := H
 replace H : (some t151) = some r := H
 have A3 := Aside0.mk A30
 clear A30
 obtain rfl := Option.some.inj H
 go_enter Tryz.func33, Tryz.ntmps33
 go_wp2_with (first | ((with_reducible refine gate_callee (f := 55) rfl ?_); refine goesL_ (some 4) rfl rfl Tryz.func55 (by kernel_rfl) rfl #[.string a0, .string (⟨#[13, 10]⟩ : ByteArray), .string (⟨#[10]⟩ : ByteArray)] rfl (by (try simp only [List.map_toArray, List.map_cons, List.map_nil]); first | done | rfl | (simp only [List.length_drop, List.length_take]; rfl)) ?_; (with_reducible refine (strings_ReplaceAll.calls a0 (⟨#[13, 10]⟩ : ByteArray) (⟨#[10]⟩ : ByteArray) t150 _ ?side1 A2.out).mono ?_); (case side1 => refine Glob.below HG.out ?_; repeat (first | (with_reducible first | exact HB.out | apply below_alloc | apply pw_below_drewN | apply below_drew1) | exact HB.out)); rintro e w4 ⟨rfl, hb⟩; refine ⟨_, rfl, ?_⟩; have n0_ := Aside0.mk (below_step (by repeat (first | (with_reducible first | exact HB.out | apply below_alloc | apply pw_below_drewN | apply below_drew1) | exact HB.out)) hb); clear HB; have HB := n0_; clear n0_; (try clear hb); (try clear hb2); (try clear hk); (try clear hi)) | ((with_reducible refine gate_callee (f := 55) rfl ?_); refine goesL_ (some 5) rfl rfl Tryz.func55 (by kernel_rfl) rfl #[.string t150, .string (⟨#[13]⟩ : ByteArray), .string (⟨#[10]⟩ : ByteArray)] rfl (by (try simp only [List.map_toArray, List.map_cons, List.map_nil]); first | done | rfl | (simp only [List.length_drop, List.length_take]; rfl)) ?_; (with_reducible refine (strings_ReplaceAll.calls t150 (⟨#[13]⟩ : ByteArray) (⟨#[10]⟩ : ByteArray) t151 _ ?side1 A3.out).mono ?_); (case side1 => refine Glob.below HG.out ?_; repeat (first | (with_reducible first | exact HB.out | apply below_alloc | apply pw_below_drewN | apply below_drew1) | exact HB.out)); rintro e w5 ⟨rfl, hb⟩; refine ⟨_, rfl, ?_⟩; have n0_ := Aside0.mk (below_step (by repeat (first | (with_reducible first | exact HB.out | apply below_alloc | apply pw_below_drewN | apply below_drew1) | exact HB.out)) hb); clear HB; have HB := n0_; clear n0_; (try clear hb); (try clear hb2); (try clear hk); (try clear hi)))
 go_ret
 exact ⟨by first | rfl | (simp [errW_none, errW_some] <;> rfl) | (simp [*, errW_none, errW_some] <;> rfl), by repeat (first | (with_reducible first | exact HB.out | apply below_alloc | apply pw_below_drewN | apply below_drew1) | exact HB.out)⟩
def prefix_Split.j0 : Nat → ByteArray → ByteArray → ByteArray → Bool → Bool → Option (ByteArray × ByteArray × Int)
 | 0, _, _, _, _, _ => none
 | k + 1, x0, x5, x6, x7, x14 => if x14 = true then (some ((⟨#[]⟩ : ByteArray), x0, 0)) else (if x7 = true then ((glyph_Plain.f k x5).bind fun t174 => (if t174 = true then ((glyph_Plain.f k x6).bind fun t175 => (if t175 = true then (some (x5, x6, 0)) else (some ((⟨#[]⟩ : ByteArray), (⟨#[]⟩ : ByteArray), 80)))) else (some ((⟨#[]⟩ : ByteArray), (⟨#[]⟩ : ByteArray), 80)))) else (some ((⟨#[]⟩ : ByteArray), (⟨#[]⟩ : ByteArray), 80)))
def prefix_Split.f (k : Nat) (a0 : ByteArray) : Option (ByteArray × ByteArray × Int) := (strings_Cut.f a0 (⟨#[58]⟩ : ByteArray)).bind fun bt170 => (if bt170.2.2 = true then (prefix_Split.j0 k a0 bt170.1 bt170.2.1 bt170.2.2 false) else ((glyph_Plain.f k a0).bind fun t173 => (prefix_Split.j0 k a0 bt170.1 bt170.2.1 bt170.2.2 t173)))
set_option maxHeartbeats 8000000 in
set_option maxRecDepth 100000 in
theorem prefix_Split.calls (k : Nat) (a0 : ByteArray) (r1 : ByteArray) (r2 : ByteArray) (r3 : Int) (w : World) (hG : Glob w) (h : prefix_Split.f k a0 = some (r1, r2, r3)) :
  Calls Tryz.prog 138 #[.string a0] w fun e w' => e = .returned (.tuple #[.string r1, .string r2, .int .i64 r3]) ∧ Below w.heap.size w w' := by
 have HG := Aside0.mk hG
 clear hG
 have HB := Aside0.mk (Below.refl w.heap.size w)
 have H : ((strings_Cut.f a0 (⟨#[58]⟩ : ByteArray)).bind fun bt170 => (if bt170.2.2 = true then (prefix_Split.j0 k a0 bt170.1 bt170.2.1 bt170.2.2 false) else ((glyph_Plain.f k a0).bind fun t173 => (prefix_Split.j0 k a0 bt170.1 bt170.2.1 bt170.2.2 t173)))) = some (r1, r2, r3) := h
 clear h
 replace H := Option.bind_eq_some_iff.mp H
 obtain ⟨⟨t170, t171, t172⟩, A20, H⟩ := H
 replace H : (if t172 = true then (prefix_Split.j0 k a0 t170 t171 t172 false) else ((glyph_Plain.f k a0).bind fun t173 => (prefix_Split.j0 k a0 t170 t171 t172 t173))) = some (r1, r2, r3) := H
 have A2 := Aside0.mk A20
 clear A20
 have HC3 := Aside0.mk H
 clear H
 go_enter Tryz.func138, Tryz.ntmps138
 go_upto_region 2 with (first | ((with_reducible refine gate_callee (f := 95) rfl ?_); refine goesL_ (some 10) rfl rfl Tryz.func95 (by kernel_rfl) rfl #[.string a0, .string (⟨#[58]⟩ : ByteArray)] rfl (by (try simp only [List.map_toArray, List.map_cons, List.map_nil]); first | done | rfl | (simp only [List.length_drop, List.length_take]; rfl)) ?_; (with_reducible refine (strings_Cut.calls a0 (⟨#[58]⟩ : ByteArray) t170 t171 t172 _ ?side1 A2.out).mono ?_); (case side1 => refine Glob.below HG.out ?_; repeat (first | (with_reducible first | exact HB.out | apply below_alloc | apply pw_below_drewN | apply below_drew1) | exact HB.out)); rintro e w4 ⟨rfl, hb⟩; refine ⟨_, rfl, ?_⟩; have n0_ := Aside0.mk (below_step (by repeat (first | (with_reducible first | exact HB.out | apply below_alloc | apply pw_below_drewN | apply below_drew1) | exact HB.out)) hb); clear HB; have HB := n0_; clear n0_; (try clear hb); (try clear hb2); (try clear hk); (try clear hi)))
 (try simp only [Act.put, List.setIfInBounds_toArray, List.set_cons_zero, List.set_cons_succ])
 go_cut [14] (fun v14 wc => ∃ (kq : Nat) (x14_2 : Bool), v14 = .bool x14_2 ∧ Aside0 (prefix_Split.j0 kq a0 t170 t171 t172 x14_2 = some (r1, r2, r3)) ∧ Aside0 (kq ≤ k) ∧ Aside0 (Below w.heap.size w wc))
 case first =>
  have H := HC3.out
  clear HC3
  by_cases c5 : t172 = true
  ·subst c5
   have H1 : (prefix_Split.j0 k a0 t170 t171 true false) = some (r1, r2, r3) := by rw [if_pos rfl] at H; exact H
   clear H
   have H := H1
   clear H1
   have H' := Aside0.mk H
   clear H
   go_wp2
   go_meet
   case rel => exact ⟨_, (false), (by first | rfl | (simp; done) | (simp [*]; done) | (simp [xx_ne_nil, xx_eq_nil]; done) | (simp [*, xx_ne_nil, xx_eq_nil]; done)), H', ⟨by first | omega | exact Nat.le_refl _⟩, ⟨by repeat (first | (with_reducible first | exact HB.out | apply below_alloc | apply pw_below_drewN | apply below_drew1) | exact HB.out)⟩⟩
  ·replace c5 := Bool.eq_false_iff.mpr c5
   subst c5
   have H1 : ((glyph_Plain.f k a0).bind fun t173 => (prefix_Split.j0 k a0 t170 t171 false t173)) = some (r1, r2, r3) := by rw [if_neg (show ¬ (false = true) by decide)] at H; exact H
   clear H
   have H := H1
   clear H1
   replace H := Option.bind_eq_some_iff.mp H
   obtain ⟨t173, A60, H⟩ := H
   replace H : (prefix_Split.j0 k a0 t170 t171 false t173) = some (r1, r2, r3) := H
   have A6 := Aside0.mk A60
   clear A60
   have H' := Aside0.mk H
   clear H
   go_wp2_with (first | (go_at_call 22; (with_reducible refine (glyph_Plain.calls k a0 t173 _ ?side1 A6.out).mono ?_); (case side1 => refine Glob.below HG.out ?_; repeat (first | (with_reducible first | exact HB.out | apply below_alloc | apply pw_below_drewN | apply below_drew1) | exact HB.out)); rintro e w7 ⟨rfl, hb⟩; have n0_ := Aside0.mk (below_step (by repeat (first | (with_reducible first | exact HB.out | apply below_alloc | apply pw_below_drewN | apply below_drew1) | exact HB.out)) hb); clear HB; have HB := n0_; clear n0_; (try clear hb); (try clear hb2); (try clear hk); (try clear hi)))
   go_meet
   case rel => exact ⟨_, (t173), (by first | rfl | (simp; done) | (simp [*]; done) | (simp [xx_ne_nil, xx_eq_nil]; done) | (simp [*, xx_ne_nil, xx_eq_nil]; done)), H', ⟨by first | omega | exact Nat.le_refl _⟩, ⟨by repeat (first | (with_reducible first | exact HB.out | apply below_alloc | apply pw_below_drewN | apply below_drew1) | exact HB.out)⟩⟩
 case rest =>
  clear HC3
  try clear c1
  try clear p2
  try clear c5
  obtain ⟨kq, x14_2, rfl, HA, HJ2, HB⟩ := hcut
  cases kq with
  | zero => exact absurd HA.out (by simp [prefix_Split.j0])
  | succ kj2 =>
    have H := HA.out
    clear HA
    simp only [prefix_Split.j0] at H
    by_cases c8 : x14_2 = true
    ·subst c8
     have H1 : (some ((⟨#[]⟩ : ByteArray), a0, 0)) = some (r1, r2, r3) := by rw [if_pos rfl] at H; exact H
     clear H
     have H := H1
     clear H1
     simp only [Option.some.injEq, Prod.mk.injEq] at H
     obtain ⟨rfl, rfl, rfl⟩ := H
     go_wp2
     go_ret3
     exact ⟨by first | rfl | (simp [errW_none, errW_some] <;> rfl) | (simp [*, errW_none, errW_some] <;> rfl), by repeat (first | (with_reducible first | exact HB.out | apply below_alloc | apply pw_below_drewN | apply below_drew1) | exact HB.out)⟩
    ·replace c8 := Bool.eq_false_iff.mpr c8
     subst c8
     have H1 : (if t172 = true then ((glyph_Plain.f kj2 t170).bind fun t174 => (if t174 = true then ((glyph_Plain.f kj2 t171).bind fun t175 => (if t175 = true then (some (t170, t171, 0)) else (some ((⟨#[]⟩ : ByteArray), (⟨#[]⟩ : ByteArray), 80)))) else (some ((⟨#[]⟩ : ByteArray), (⟨#[]⟩ : ByteArray), 80)))) else (some ((⟨#[]⟩ : ByteArray), (⟨#[]⟩ : ByteArray), 80))) = some (r1, r2, r3) := by rw [if_neg (show ¬ (false = true) by decide)] at H; exact H
     clear H
     have H := H1
     clear H1
     by_cases c9 : t172 = true
     ·subst c9
      have H1 : ((glyph_Plain.f kj2 t170).bind fun t174 => (if t174 = true then ((glyph_Plain.f kj2 t171).bind fun t175 => (if t175 = true then (some (t170, t171, 0)) else (some ((⟨#[]⟩ : ByteArray), (⟨#[]⟩ : ByteArray), 80)))) else (some ((⟨#[]⟩ : ByteArray), (⟨#[]⟩ : ByteArray), 80)))) = some (r1, r2, r3) := by rw [if_pos rfl] at H; exact H
      clear H
      have H := H1
      clear H1
      replace H := Option.bind_eq_some_iff.mp H
      obtain ⟨t174, A100, H⟩ := H
      replace H : (if t174 = true then ((glyph_Plain.f kj2 t171).bind fun t175 => (if t175 = true then (some (t170, t171, 0)) else (some ((⟨#[]⟩ : ByteArray), (⟨#[]⟩ : ByteArray), 80)))) else (some ((⟨#[]⟩ : ByteArray), (⟨#[]⟩ : ByteArray), 80))) = some (r1, r2, r3) := H
      have A10 := Aside0.mk A100
      clear A100
      by_cases c11 : t174 = true
      ·subst c11
       have H1 : ((glyph_Plain.f kj2 t171).bind fun t175 => (if t175 = true then (some (t170, t171, 0)) else (some ((⟨#[]⟩ : ByteArray), (⟨#[]⟩ : ByteArray), 80)))) = some (r1, r2, r3) := by rw [if_pos rfl] at H; exact H
       clear H
       have H := H1
       clear H1
       replace H := Option.bind_eq_some_iff.mp H
       obtain ⟨t175, A120, H⟩ := H
       replace H : (if t175 = true then (some (t170, t171, 0)) else (some ((⟨#[]⟩ : ByteArray), (⟨#[]⟩ : ByteArray), 80))) = some (r1, r2, r3) := H
       have A12 := Aside0.mk A120
       clear A120
       by_cases c13 : t175 = true
       ·subst c13
        have H1 : (some (t170, t171, 0)) = some (r1, r2, r3) := by rw [if_pos rfl] at H; exact H
        clear H
        have H := H1
        clear H1
        simp only [Option.some.injEq, Prod.mk.injEq] at H
        obtain ⟨rfl, rfl, rfl⟩ := H
        go_wp2_with (first | (go_at_call 22; (with_reducible refine (glyph_Plain.calls kj2 t170 true _ ?side1 A10.out).mono ?_); (case side1 => refine Glob.below HG.out ?_; repeat (first | (with_reducible first | exact HB.out | apply below_alloc | apply pw_below_drewN | apply below_drew1) | exact HB.out)); rintro e w14 ⟨rfl, hb⟩; have n0_ := Aside0.mk (below_step (by repeat (first | (with_reducible first | exact HB.out | apply below_alloc | apply pw_below_drewN | apply below_drew1) | exact HB.out)) hb); clear HB; have HB := n0_; clear n0_; (try clear hb); (try clear hb2); (try clear hk); (try clear hi)) | (go_at_call 22; (with_reducible refine (glyph_Plain.calls kj2 t171 true _ ?side1 A12.out).mono ?_); (case side1 => refine Glob.below HG.out ?_; repeat (first | (with_reducible first | exact HB.out | apply below_alloc | apply pw_below_drewN | apply below_drew1) | exact HB.out)); rintro e w15 ⟨rfl, hb⟩; have n0_ := Aside0.mk (below_step (by repeat (first | (with_reducible first | exact HB.out | apply below_alloc | apply pw_below_drewN | apply below_drew1) | exact HB.out)) hb); clear HB; have HB := n0_; clear n0_; (try clear hb); (try clear hb2); (try clear hk); (try clear hi)))
        go_ret3
        exact ⟨by first | rfl | (simp [errW_none, errW_some] <;> rfl) | (simp [*, errW_none, errW_some] <;> rfl), by repeat (first | (with_reducible first | exact HB.out | apply below_alloc | apply pw_below_drewN | apply below_drew1) | exact HB.out)⟩
       ·replace c13 := Bool.eq_false_iff.mpr c13
        subst c13
        have H1 : (some ((⟨#[]⟩ : ByteArray), (⟨#[]⟩ : ByteArray), 80)) = some (r1, r2, r3) := by rw [if_neg (show ¬ (false = true) by decide)] at H; exact H
        clear H
        have H := H1
        clear H1
        simp only [Option.some.injEq, Prod.mk.injEq] at H
        obtain ⟨rfl, rfl, rfl⟩ := H
        go_wp2_with (first | (go_at_call 22; (with_reducible refine (glyph_Plain.calls kj2 t170 true _ ?side1 A10.out).mono ?_); (case side1 => refine Glob.below HG.out ?_; repeat (first | (with_reducible first | exact HB.out | apply below_alloc | apply pw_below_drewN | apply below_drew1) | exact HB.out)); rintro e w16 ⟨rfl, hb⟩; have n0_ := Aside0.mk (below_step (by repeat (first | (with_reducible first | exact HB.out | apply below_alloc | apply pw_below_drewN | apply below_drew1) | exact HB.out)) hb); clear HB; have HB := n0_; clear n0_; (try clear hb); (try clear hb2); (try clear hk); (try clear hi)) | (go_at_call 22; (with_reducible refine (glyph_Plain.calls kj2 t171 false _ ?side1 A12.out).mono ?_); (case side1 => refine Glob.below HG.out ?_; repeat (first | (with_reducible first | exact HB.out | apply below_alloc | apply pw_below_drewN | apply below_drew1) | exact HB.out)); rintro e w17 ⟨rfl, hb⟩; have n0_ := Aside0.mk (below_step (by repeat (first | (with_reducible first | exact HB.out | apply below_alloc | apply pw_below_drewN | apply below_drew1) | exact HB.out)) hb); clear HB; have HB := n0_; clear n0_; (try clear hb); (try clear hb2); (try clear hk); (try clear hi)))
        go_ret3
        exact ⟨by first | rfl | (simp [errW_none, errW_some] <;> rfl) | (simp [*, errW_none, errW_some] <;> rfl), by repeat (first | (with_reducible first | exact HB.out | apply below_alloc | apply pw_below_drewN | apply below_drew1) | exact HB.out)⟩
      ·replace c11 := Bool.eq_false_iff.mpr c11
       subst c11
       have H1 : (some ((⟨#[]⟩ : ByteArray), (⟨#[]⟩ : ByteArray), 80)) = some (r1, r2, r3) := by rw [if_neg (show ¬ (false = true) by decide)] at H; exact H
       clear H
       have H := H1
       clear H1
       simp only [Option.some.injEq, Prod.mk.injEq] at H
       obtain ⟨rfl, rfl, rfl⟩ := H
       go_wp2_with (first | (go_at_call 22; (with_reducible refine (glyph_Plain.calls kj2 t170 false _ ?side1 A10.out).mono ?_); (case side1 => refine Glob.below HG.out ?_; repeat (first | (with_reducible first | exact HB.out | apply below_alloc | apply pw_below_drewN | apply below_drew1) | exact HB.out)); rintro e w18 ⟨rfl, hb⟩; have n0_ := Aside0.mk (below_step (by repeat (first | (with_reducible first | exact HB.out | apply below_alloc | apply pw_below_drewN | apply below_drew1) | exact HB.out)) hb); clear HB; have HB := n0_; clear n0_; (try clear hb); (try clear hb2); (try clear hk); (try clear hi)))
       go_ret3
       exact ⟨by first | rfl | (simp [errW_none, errW_some] <;> rfl) | (simp [*, errW_none, errW_some] <;> rfl), by repeat (first | (with_reducible first | exact HB.out | apply below_alloc | apply pw_below_drewN | apply below_drew1) | exact HB.out)⟩
     ·replace c9 := Bool.eq_false_iff.mpr c9
      subst c9
      have H1 : (some ((⟨#[]⟩ : ByteArray), (⟨#[]⟩ : ByteArray), 80)) = some (r1, r2, r3) := by rw [if_neg (show ¬ (false = true) by decide)] at H; exact H
      clear H
      have H := H1
      clear H1
      simp only [Option.some.injEq, Prod.mk.injEq] at H
      obtain ⟨rfl, rfl, rfl⟩ := H
      go_wp2
      go_ret3
      exact ⟨by first | rfl | (simp [errW_none, errW_some] <;> rfl) | (simp [*, errW_none, errW_some] <;> rfl), by repeat (first | (with_reducible first | exact HB.out | apply below_alloc | apply pw_below_drewN | apply below_drew1) | exact HB.out)⟩
end Go.Proofs.YtadgeghipimfiaaGreatDoor.Pg
end
section
namespace Go.Proofs.YtadgeghipimfiaaGreatDoor.X
open Go.RowKit Go.Shelf Go.Proofs.YtadgeghipimfiaaGreatDoorW.PrintWords Go.Proofs.YtadgeghipimfiaaGreatDoor.F Go.Proofs.YtadgeghipimfiaaGreatDoor.Pg
set_option linter.unusedVariables false
set_option linter.unusedSimpArgs false
theorem name_calls (b : Nat) (s n r : ByteArray) (o : Value) (w : World) (hG : Glob w) (hb : Scan w b s o) (k : Nat) (h : glyph_Name.f k s = some (n, r, 0)) :
  Calls Tryz.prog 96 #[.pointer (some ⟨b, 0, none⟩)] w fun e w' => e = .returned (.string n) ∧ Only b w w' ∧ Scan w' b r o := by
 have hc : w.cell? ⟨b, 0, none⟩ = some (.string s) := hb.cell 0
 have HB := Lib.hid hb
 have HG := Lib.hid hG
 have HN := Lib.hid (glyph_Name.calls k s n r 0 w hG h)
 clear hb hG h
 go_enter Tryz.func96, Tryz.ntmps96
 go_wp2_with fail
 refine HN.out.mono ?_
 rintro e w1 ⟨rfl, h1⟩
 have hb1 : Scan w1 b s o := HB.out.below h1 HB.out.lt
 have hf1 := hb1.frozen 0
 have hc1 : w1.cell? ⟨b, 0, none⟩ = some (.string s) := hb1.cell 0
 have H1 := Lib.hid h1
 have HB1 := Lib.hid hb1
 clear h1 hb1 hc
 go_wp2_with fail
 refine (must_ok w1).mono ?_
 rintro e w2 ⟨rfl, rfl⟩
 go_wp2
 go_ret
 exact ⟨rfl, (Off.of_below H1.out).set _ _ (.inl rfl), HB1.out.set 0 _⟩
theorem allocOff (S : Nat → Prop) (w : World) (o : Obj) : Off S w (w.alloc o) := Off.of_below ((Below.refl _ _).alloc (Nat.le_refl _) _)
theorem Scan.alloc {w : World} {b : Nat} {s : ByteArray} {o : Value} (h : Scan w b s o) (x : Obj) : Scan (w.alloc x) b s o := h.off (allocOff (fun _ => False) w x) id
theorem quoted_calls (b : Nat) (q : UInt8) (u v : Bs) (o : Value) (w : World) (hG : Gb b w) (hq : q = 34 ∨ q = 39) (hb : Scan w b (M (q :: (u ++ q :: v))) o) (hs : (u ++ q :: v).length < 4294967280) (hcut : Lib.cut (u ++ q :: v) [q] = (u, v, true)) :
  Calls Tryz.prog 161 #[.pointer (some ⟨b, 0, none⟩)] w fun e w' => e = .returned (.string (M u)) ∧ Only b w w' ∧ Scan w' b (M v) o := by
 have HB := Lib.hid hb
 have HG := Lib.hid hG
 have HC := Lib.hid hcut
 clear hb hG hcut
 rcases hq with rfl | rfl
 ·go_enter Tryz.func161, Tryz.ntmps161
  go_wp2
  refine wp_loop_rounds 2 ?_
  rw [rounds_succ]
  go_wp2_with fail
  refine (take_calls b _ ⟨#[34]⟩ o _ (HB.out.alloc _)).mono ?_
  rintro e w1 ⟨rfl, ho1, hs1⟩
  rw [show Lib.hasPrefix (L (M (34 :: (u ++ 34 :: v)))) (L ⟨#[34]⟩) = true from rfl]
  have HO := Lib.hid ((allocOff _ w _).trans ho1)
  have HS := Lib.hid hs1
  clear ho1 hs1
  go_wp2_with fail
  refine (upTo_calls b _ ⟨#[34]⟩ o w1 (HG.out.off HO.out (fun k hk => by omega)).glob HS.out (Nat.lt_of_lt_of_le hs (by decide)) u v HC.out).mono ?_
  rintro e w2 ⟨rfl, ho2, hs2⟩
  go_wp2
  go_ret
  exact ⟨rfl, HO.out.trans ho2, hs2⟩
 ·go_enter Tryz.func161, Tryz.ntmps161
  go_wp2
  refine wp_loop_rounds 2 ?_
  rw [rounds_succ]
  go_wp2_with fail
  have ha := World.alloc_heap_new w (.cells #[.string ⟨#[34]⟩, .string ⟨#[39]⟩] 9)
  refine (take_calls b _ ⟨#[34]⟩ o _ (HB.out.alloc _)).mono ?_
  rintro e w1 ⟨rfl, ho1, hs1⟩
  rw [show Lib.hasPrefix (L (M (39 :: (u ++ 39 :: v)))) (L ⟨#[34]⟩) = false from rfl]
  have hk : Blk w1 w.heap.size #[.string ⟨#[34]⟩, .string ⟨#[39]⟩] 9 := Blk.off (W := w.alloc (.cells #[.string ⟨#[34]⟩, .string ⟨#[39]⟩] 9)) ha ho1 (fun h => by have := HB.out.lt; omega)
  have hc1 : w1.cell? ⟨w.heap.size, 1, none⟩ = some (.string ⟨#[39]⟩) := hk.cell 1
  have HO := Lib.hid ((allocOff _ w _).trans ho1)
  have HS := Lib.hid hs1
  clear ho1 hs1 ha hk
  go_wp2
  rw [rounds_succ]
  go_wp2_with fail
  refine (take_calls b _ ⟨#[39]⟩ o _ HS.out).mono ?_
  rintro e w2 ⟨rfl, ho2, hs2⟩
  have HO2 := Lib.hid (HO.out.trans ho2)
  have HS2 := Lib.hid hs2
  clear ho2 hs2
  rw [show Lib.hasPrefix (L (M (Lib.trimPrefix (L (M (39 :: (u ++ 39 :: v)))) (L ⟨#[34]⟩)))) (L ⟨#[39]⟩) = true from rfl]
  go_wp2_with fail
  refine (upTo_calls b _ ⟨#[39]⟩ o w2 (HG.out.off HO2.out (fun k hk => by omega)).glob HS2.out (Nat.lt_of_lt_of_le hs (by decide)) u v HC.out).mono ?_
  rintro e w3 ⟨rfl, ho3, hs3⟩
  go_wp2
  go_ret
  exact ⟨rfl, HO2.out.trans ho3, hs3⟩
theorem equals_calls (b : Nat) (q : UInt8) (u v : Bs) (o : Value) (w : World) (hG : Gb b w) (hq : q = 34 ∨ q = 39) (hb : Scan w b (M (61 :: q :: (u ++ q :: v))) o) (hs : (u ++ q :: v).length < 4294967280) (hcut : Lib.cut (u ++ q :: v) [q] = (u, v, true)) :
  Calls Tryz.prog 127 #[.pointer (some ⟨b, 0, none⟩)] w fun e w' => e = .returned (.string (M u)) ∧ Only b w w' ∧ Scan w' b (M v) o := by
 have HB := Lib.hid hb
 have HG := Lib.hid hG
 have HC := Lib.hid hcut
 clear hb hG hcut
 have e2 : Lib.hasPrefix (L (M (61 :: q :: (u ++ q :: v)))) (L ⟨#[61]⟩) = true := rfl
 have e3 : M (Lib.trimLeftS (L (M (q :: (u ++ q :: v)))) wsS) = M (q :: (u ++ q :: v)) := by rcases hq with rfl | rfl <;> rfl
 go_enter Tryz.func127, Tryz.ntmps127
 go_wp2_with fail
 refine (space_calls b _ o w HB.out).mono ?_
 rintro e w1 ⟨rfl, ho1, hs1⟩
 have HO1 := Lib.hid ho1
 have HS1 := Lib.hid (show Scan w1 b (M (61 :: q :: (u ++ q :: v))) o from hs1)
 clear ho1 hs1
 go_wp2_with fail
 refine (take_calls b _ ⟨#[61]⟩ o w1 HS1.out).mono ?_
 rintro e w2 ⟨rfl, ho2, hs2⟩
 rw [e2]
 have HO2 := Lib.hid (HO1.out.trans ho2)
 have HS2 := Lib.hid (show Scan w2 b (M (q :: (u ++ q :: v))) o from hs2)
 clear ho2 hs2
 go_wp2_with fail
 refine (must_ok w2).mono ?_
 rintro e w3 ⟨rfl, rfl⟩
 go_wp2_with fail
 refine (space_calls b _ o w3 HS2.out).mono ?_
 rintro e w4 ⟨rfl, ho4, hs4⟩
 rw [e3] at hs4
 have HO4 := Lib.hid (HO2.out.trans ho4)
 have HS4 := Lib.hid hs4
 clear ho4 hs4
 go_wp2_with fail
 refine (quoted_calls b q u v o w4 (HG.out.off HO4.out (fun k hk => by omega)) hq HS4.out hs HC.out).mono ?_
 rintro e w5 ⟨rfl, ho5, hs5⟩
 go_wp2
 go_ret
 exact ⟨rfl, HO4.out.trans ho5, hs5⟩
end Go.Proofs.YtadgeghipimfiaaGreatDoor.X
end
section
namespace Go.Proofs.YtadgeghipimfiaaGreatDoor.X
open Go.RowKit Go.Shelf Go.Proofs.YtadgeghipimfiaaGreatDoorW.PrintWords Go.Proofs.YtadgeghipimfiaaGreatDoor.F
set_option linter.unusedVariables false
set_option linter.unusedSimpArgs false
abbrev tokZ : Value := .agg #[.int .i64 0, .string ⟨#[]⟩, .slice none 0 0, .bool false, .string ⟨#[]⟩]
theorem info60 : ∃ i, Tryz.prog.info? 60 = some i ∧ i.zero = some tokZ ∧ i.size = 5 ∧ i.bytes = 72 := by
 have h : (Tryz.prog.info? 60).map (fun i => (i.zero, i.size, i.bytes)) = some (some tokZ, 5, 72) := by kernel_rfl
 cases hi : Tryz.prog.info? 60 with
 | none => rw [hi] at h; cases h
 | some i => rw [hi] at h; simp at h; exact ⟨i, rfl, h.1, h.2.1, h.2.2⟩
theorem at1 (w : World) (o1 o2 : Obj) : ((w.alloc o1).alloc o2).heap[w.heap.size + 1]? = some o2 := by
 have := World.alloc_heap_new (w.alloc o1) o2
 simpa using this
theorem tok_one {t0 : Int} {t1 t4 : ByteArray} {t2 : Value} {t3 : Bool} (h2 : t2.oneCell' = true) : ∀ u ∈ ([.int .i64 t0, .string t1, t2, .bool t3, .string t4] : List Value), u.oneCell' = true := by
 intro u hu
 simp only [List.mem_cons, List.not_mem_nil, or_false] at hu
 rcases hu with rfl | rfl | rfl | rfl | rfl
 ·rfl
 ·rfl
 ·exact h2
 ·rfl
 ·rfl
set_option maxRecDepth 100000 in
set_option maxHeartbeats 1600000 in
theorem put_calls (b base : Nat) (s : ByteArray) (o : Value) (n : Nat) (xs : List Value) (t0 : Int) (t1 t4 : ByteArray) (t2 : Value) (t3 : Bool) (w : World) (hb : Scan w b s o) (ho : w.ownsRow base 60 5 o n xs) (hbase : b < base) (hbw : base ≤ w.heap.size) (hn : n ≤ 1000000) (h2 : t2.oneCell' = true) :
  Calls Tryz.prog 60 #[.pointer (some ⟨b, 0, none⟩), .agg #[.int .i64 t0, .string t1, t2, .bool t3, .string t4]] w fun e w' => ∃ g cap w1 W, e = .returned (.tuple #[]) ∧ w' = w1.setCell ⟨b, 1, none⟩ (.slice (some ⟨g, 0, none⟩) (n + 1) cap) ∧ Below w.heap.size w W ∧ Scan w1 b s o ∧ w1.ownsRow base 60 5 (.slice (some ⟨g, 0, none⟩) (n + 1) cap) (n + 1) (xs ++ [.int .i64 t0, .string t1, t2, .bool t3, .string t4]) ∧ W.grownBy w1 o.ownBlock ∧ (o.ownBlock = some g ∨ g = W.heap.size) := by
 have hu106 := Tryz.underlying60
 have hu96 := Tryz.underlying50
 obtain ⟨i0, hi0, hz0, hs0, hb0⟩ := info60
 have HB := Lib.hid hb
 have HO := Lib.hid ho
 have hc : w.cell? ⟨b, 1, none⟩ = some o := hb.cell 1
 have hf := hb.frozen 1
 have hlt := hb.lt
 clear hb ho
 go_enter Tryz.func60, Tryz.ntmps60
 go_wp2_with fail
 go_region_law (refine step_append_lies _ rfl (.tmp 8) (.tmp 10) 50 rfl base 60 i0 tokZ 5 72 Tryz.underlying50 hi0 hz0 hs0 hb0 rfl (by decide) o n xs rfl ((HO.out.alloc _).alloc _) ⟨w.heap.size + 1, 0, none⟩ 1 1 [.int .i64 t0, .string t1, t2, .bool t3, .string t4] rfl rfl (World.news_of_block (at1 w _ _)) (tok_one h2) (by decide) (by unfold maxLen; omega) (by omega) (by simp; omega) _ rfl ?_; intro g cap w1 hown hgrow hat hlt1; have hk : Blk w1 b #[.string s, o] 74 := (hgrow.block b (by simp; omega) (fun h => absurd (HO.out.lt b h.symm).1 (by omega))).trans ((HB.out.alloc _).alloc _); have hc1 : w1.cell? ⟨b, 1, none⟩ = some o := hk.cell 1; have hf1 := hk.frozen 1; have HS := Lib.hid (And.intro hown (And.intro hgrow (And.intro hat (And.intro hlt1 hk)))); clear hown hgrow hat hlt1 hk)
 all_goals
  go_end0
  obtain ⟨hown, hgrow, hat, hlt1, hk⟩ := HS.out
  exact ⟨_, _, w1, _, rfl, rfl, (((Below.refl _ w).alloc (Nat.le_refl _) _).alloc (by simp) _).drew, hk, hown, hgrow, hat⟩
end Go.Proofs.YtadgeghipimfiaaGreatDoor.X
end
section
namespace Go.Proofs.YtadgeghipimfiaaGreatDoor.U
open Go.RowKit Go.Lib
theorem replaceK_miss (old new : Bs) (k : Nat) (s : Bs) (h : index s old = -1) : replaceK old new k s = s := by
 cases k with
 | zero => rfl
 | succ k => rw [replaceK, if_pos (by rw [h]; rfl)]
theorem ra_eq {old new : Bs} (hne : old ≠ new) (s : Bs) : replaceAll s old new = replaceK old new (count s old) s := by
 unfold replaceAll replace replaceNum
 rw [if_neg (by simpa using hne), if_pos (by left; decide)]
theorem ra_miss {old new s : Bs} (hne : old ≠ new) (h : index s old = -1) : replaceAll s old new = s := by
 rw [ra_eq hne, replaceK_miss _ _ _ _ h]
theorem ra_hit {old new s : Bs} (h0 : old ≠ []) (hne : old ≠ new) {i : Nat} (h : index s old = i) : replaceAll s old new = s.take i ++ new ++ replaceAll (s.drop (i + old.length)) old new := by
 rw [ra_eq hne, ra_eq hne, count_hit h0 h, Nat.add_comm 1, replaceK_hit _ _ _ _ i h]
theorem ra_nil {old new : Bs} (h0 : old ≠ []) (hne : old ≠ new) : replaceAll [] old new = [] := by
 refine ra_miss hne ?_
 cases old with
 | nil => exact absurd rfl h0
 | cons a t => rfl
theorem ra_cons_hit {old new : Bs} {c : UInt8} {t : Bs} (h0 : old ≠ []) (hne : old ≠ new) (h : old.isPrefixOf (c :: t) = true) : replaceAll (c :: t) old new = new ++ replaceAll ((c :: t).drop old.length) old new := by
 have hi : index (c :: t) old = ((0 : Nat) : Int) := by unfold index; rw [if_pos h]; rfl
 rw [ra_hit h0 hne hi]
 simp
theorem ra_cons_miss {old new : Bs} {c : UInt8} {t : Bs} (h0 : old ≠ []) (hne : old ≠ new) (h : old.isPrefixOf (c :: t) = false) : replaceAll (c :: t) old new = c :: replaceAll t old new := by
 by_cases hi : index t old = -1
 ·have : index (c :: t) old = -1 := by unfold index; rw [h, hi]; rfl
  rw [ra_miss hne this, ra_miss hne hi]
 ·obtain ⟨i, hi⟩ : ∃ i : Nat, index t old = i := ⟨(index t old).toNat, by have := index_ge t old; omega⟩
  have hi' : index (c :: t) old = ((i + 1 : Nat) : Int) := by
   unfold index
   rw [h, hi]
   have : ((i : Int) == -1) = false := by rw [beq_eq_false_iff_ne]; omega
   simp [this]
  rw [ra_hit h0 hne hi', ra_hit h0 hne hi, show i + 1 + old.length = (i + old.length) + 1 by omega]
  simp
def linesL : Bs → Bs
 | [] => []
 | [c] => if c = 13 then [10] else [c]
 | c :: d :: t => if c = 13 then (if d = 10 then 10 :: linesL t else 10 :: linesL (d :: t)) else c :: linesL (d :: t)
theorem linesL_cons_ne (c : UInt8) (t : Bs) (h : c ≠ 13) : linesL (c :: t) = c :: linesL t := by
 cases t with
 | nil => simp [linesL, h]
 | cons d t => simp [linesL, h]
theorem linesL_crlf (t : Bs) : linesL (13 :: 10 :: t) = 10 :: linesL t := by simp [linesL]
theorem linesL_cr (d : UInt8) (t : Bs) (h : d ≠ 10) : linesL (13 :: d :: t) = 10 :: linesL (d :: t) := by simp [linesL, h]
theorem ra_both : ∀ (n : Nat) (l : Bs), l.length ≤ n → replaceAll (replaceAll l [13, 10] [10]) [13] [10] = linesL l := by
 have a0 : ([13, 10] : Bs) ≠ [] := by decide
 have a1 : ([13, 10] : Bs) ≠ [10] := by decide
 have b0 : ([13] : Bs) ≠ [] := by decide
 have b1 : ([13] : Bs) ≠ [10] := by decide
 intro n
 induction n with
 | zero =>
   intro l hl
   have : l = [] := List.eq_nil_of_length_eq_zero (by omega)
   subst this
   rw [ra_nil a0 a1, ra_nil b0 b1]
   rfl
 | succ n ih =>
   intro l hl
   match l, hl with
   | [], _ => rw [ra_nil a0 a1, ra_nil b0 b1]; rfl
   | c :: t, hl =>
     have hl' : t.length ≤ n := by simpa using hl
     by_cases hc : c = 13
     ·subst hc
      match t, hl' with
      | [], _ =>
        rw [ra_cons_miss a0 a1 (by decide), ra_nil a0 a1, ra_cons_hit b0 b1 (by decide)]
        simp [ra_nil b0 b1, linesL]
      | d :: t, hl' =>
        by_cases hd : d = 10
        ·subst hd
         rw [ra_cons_hit a0 a1 (by simp [List.isPrefixOf]), linesL_crlf]
         have : ([10] ++ replaceAll (List.drop [13, (10 : UInt8)].length (13 :: 10 :: t)) [13, 10] [10] : Bs) = 10 :: replaceAll t [13, 10] [10] := rfl
         rw [this, ra_cons_miss b0 b1 (by simp [List.isPrefixOf]), ih t (by simp at hl'; omega)]
        ·rw [ra_cons_miss a0 a1 (by simp [List.isPrefixOf]; exact fun h => hd h.symm), ra_cons_hit b0 b1 (by simp [List.isPrefixOf]), linesL_cr d t hd]
         have : ([10] ++ replaceAll (List.drop [(13 : UInt8)].length (13 :: replaceAll (d :: t) [13, 10] [10])) [13] [10] : Bs) = 10 :: replaceAll (replaceAll (d :: t) [13, 10] [10]) [13] [10] := rfl
         rw [this, ih (d :: t) hl']
     ·have hp : ([13, 10] : Bs).isPrefixOf (c :: t) = false := by
       simp [List.isPrefixOf]
       intro h
       exact absurd h.symm hc
      have hq : ∀ u : Bs, ([13] : Bs).isPrefixOf (c :: u) = false := by
       intro u
       simp [List.isPrefixOf]
       exact fun h => hc h.symm
      rw [ra_cons_miss a0 a1 hp, ra_cons_miss b0 b1 (hq _), linesL_cons_ne c t hc, ih t hl']
end Go.Proofs.YtadgeghipimfiaaGreatDoor.U
end
section
namespace Go.Proofs.YtadgeghipimfiaaGreatDoor.V
open Go.RowKit Go.Lib Go.Proofs.YtadgeghipimfiaaGreatDoor.U
def preC (l : Bs) : Bs := l.takeWhile (· != 58)
def postC (l : Bs) : Bs := l.dropWhile (· != 58)
theorem pre_post (l : Bs) : preC l ++ postC l = l := List.takeWhile_append_dropWhile
theorem preC_cons_hit (t : Bs) : preC (58 :: t) = [] ∧ postC (58 :: t) = 58 :: t := by simp [preC, postC]
theorem preC_cons_miss {c : UInt8} (t : Bs) (h : c ≠ 58) : preC (c :: t) = c :: preC t ∧ postC (c :: t) = postC t := by
 simp [preC, postC, h]
theorem postC_nil : ∀ (l : Bs), postC l = [] ↔ ∀ c ∈ l, c ≠ 58 := by
 intro l
 induction l with
 | nil => simp [postC]
 | cons c t ih =>
   by_cases hc : c = 58
   ·subst hc; rw [(preC_cons_hit t).2]; simp
   ·rw [(preC_cons_miss t hc).2, ih]; simp [hc]
theorem pre_at (a b : Bs) (ha : ∀ c ∈ a, c ≠ 58) : preC (a ++ 58 :: b) = a ∧ postC (a ++ 58 :: b) = 58 :: b := by
 induction a with
 | nil => exact preC_cons_hit b
 | cons c t ih =>
   have hc := ha c (List.mem_cons_self ..)
   have := ih (fun d hd => ha d (List.mem_cons_of_mem _ hd))
   rw [List.cons_append, (preC_cons_miss _ hc).1, (preC_cons_miss _ hc).2, this.1, this.2]
   exact ⟨rfl, rfl⟩
theorem ib_pos : ∀ (l : Bs), (postC l = [] ∧ indexByte l 58 = -1) ∨ (postC l ≠ [] ∧ indexByte l 58 = ((preC l).length : Int)) := by
 intro l
 induction l with
 | nil => exact .inl ⟨rfl, rfl⟩
 | cons c t ih =>
   by_cases hc : c = 58
   ·subst hc
    right
    rw [(preC_cons_hit t).1, (preC_cons_hit t).2]
    exact ⟨by simp, by simp [indexByte]⟩
   ·rw [(preC_cons_miss t hc).1, (preC_cons_miss t hc).2]
    have hb : (c == 58) = false := by simp [hc]
    rcases ih with ⟨h1, h2⟩ | ⟨h1, h2⟩
    ·left
     refine ⟨h1, ?_⟩
     unfold indexByte
     rw [hb, h2]
     rfl
    ·right
     refine ⟨h1, ?_⟩
     unfold indexByte
     rw [hb, h2]
     have : (((preC t).length : Int) == -1) = false := by rw [beq_eq_false_iff_ne]; omega
     simp only [this, Bool.false_eq_true, if_false, List.length_cons]
     omega
theorem cut58 (l : Bs) : Lib.cut l [58] = if postC l = [] then (l, [], false) else (preC l, (postC l).tail, true) := by
 unfold Lib.cut
 rw [index_one]
 rcases ib_pos l with ⟨h1, h2⟩ | ⟨h1, h2⟩
 ·rw [h2, if_neg (by decide), if_pos h1]
 ·rw [h2, if_pos (by omega), if_neg h1, Int.toNat_natCast]
  have key : ∀ a b : Bs, a ++ b = l → l.take a.length = a ∧ l.drop (a.length + 1) = b.tail := by
   rintro a b rfl
   refine ⟨List.take_left' rfl, ?_⟩
   rw [← List.drop_drop, List.drop_left' rfl, List.drop_one]
  obtain ⟨k1, k2⟩ := key _ _ (pre_post l)
  rw [k1, show [(58 : UInt8)].length = 1 from rfl, k2]
end Go.Proofs.YtadgeghipimfiaaGreatDoor.V
end
section
namespace Go.Proofs.YtadgeghipimfiaaGreatDoor.U
open Go.RowKit Go.Lib Go.Proofs.YtadgeghipimfiaaGreatDoor.X
def nb (l : Bs) (i : Nat) : Nat := (l.getD i 0).toNat
theorem nb_lt (l : Bs) (i : Nat) : nb l i < 256 := (l.getD i 0).toNat_lt
theorem decodeL_eq (l : Bs) : decodeL l = decodeN l.length (nb l 0) (nb l 1) (nb l 2) (nb l 3) := by
 have h := decode_at (B l) 0
 rw [B_size, B_get, B_get, B_get, B_get] at h
 exact h
theorem decode_drop (l : Bs) (p : Nat) : Utf8.decode (B l) p = decodeL (l.drop p) := by
 rw [decodeL_eq, decode_at, B_size, B_get, B_get, B_get, B_get, List.length_drop]
 have e : ∀ i, nb (l.drop p) i = (l.getD (p + i) 0).toNat := fun i => by
  unfold nb
  rw [List.getD_eq_getElem?_getD, List.getD_eq_getElem?_getD, List.getElem?_drop]
 rw [e, e, e, e]
 rfl
theorem decodeGo_eq (l : Bs) (h : l ≠ []) : Lib.decodeGo (B l) = decodeL l := by
 unfold Lib.decodeGo
 have : ¬ (B l).size = 0 := by rw [B_size]; intro e; exact h (List.eq_nil_of_length_eq_zero e)
 rw [if_neg this, decode_drop]
 rfl
def firstL (l : Bs) : Int × Int :=
 if l = [] then (0, 0) else if (decodeL l).1 = 65533 ∧ (decodeL l).2 = 1 then (0, 0) else (((decodeL l).1 : Int), ((decodeL l).2 : Int))
abbrev bad (l : Bs) : Prop := (decodeL l).1 = 65533 ∧ (decodeL l).2 = 1
theorem firstL_bad {l : Bs} (h : bad l) : firstL l = (0, 0) := by
 unfold firstL
 rw [if_pos (show (decodeL l).1 = 65533 ∧ (decodeL l).2 = 1 from h)]
 split <;> rfl
theorem firstL_good {l : Bs} (h0 : l ≠ []) (h : ¬ bad l) : firstL l = (((decodeL l).1 : Int), ((decodeL l).2 : Int)) := by
 unfold firstL
 rw [if_neg h0, if_neg h]
theorem wid_pos (l : Bs) : 1 ≤ (decodeL l).2 := decodeL_width l
theorem wid_le (l : Bs) (h : l ≠ []) : (decodeL l).2 ≤ l.length := decodeL_le l h
def runesL : Nat → Bs → Bool
 | 0, _ => true
 | f + 1, l => if l = [] then true else charB (decodeL l).1 && runesL f (l.drop (decodeL l).2)
theorem runesOk_eq (l : Bs) : ∀ (f p : Nat), runesOk (B l) f p = runesL f (l.drop p) := by
 intro f
 induction f with
 | zero => intro p; rfl
 | succ f ih =>
   intro p
   unfold runesOk runesL
   rw [B_size, decode_drop]
   by_cases h : p < l.length
   ·have : l.drop p ≠ [] := by simp; omega
    rw [if_pos h, if_neg this, ih, List.drop_drop]
   ·have : l.drop p = [] := List.drop_eq_nil_of_le (by omega)
    rw [if_neg h, if_pos this]
def checkL : Nat → Bs → Int
 | 0, _ => 0
 | f + 1, l => if l = [] then 0 else if (firstL l).2 = 0 ∨ charB (firstL l).1 = false then 50 else checkL f (l.drop (decodeL l).2)
theorem check_eq : ∀ (f : Nat) (l : Bs), l.length ≤ f → (if validD l && runesL f l then (0 : Int) else 50) = checkL f l := by
 intro f
 induction f with
 | zero =>
   intro l hl
   have : l = [] := List.eq_nil_of_length_eq_zero (by omega)
   subst this
   rfl
 | succ f ih =>
   intro l hl
   unfold runesL checkL
   by_cases h : l = []
   ·subst h; rfl
   ·rw [if_neg h, if_neg h, validD_step l h]
    by_cases hb : bad l
    ·rw [if_pos hb, firstL_bad hb]; simp
    ·rw [if_neg hb, firstL_good h hb]
     have hw := wid_pos l
     by_cases hc : charB ((decodeL l).1 : Int) = true
     ·have hn : ¬ ((((decodeL l).1 : Int), ((decodeL l).2 : Int)).2 = 0 ∨ charB (((decodeL l).1 : Int), ((decodeL l).2 : Int)).1 = false) := by
       rintro (h1 | h1)
       ·simp only at h1; omega
       ·simp only [hc] at h1; cases h1
      rw [ite_cond_eq_false _ _ (eq_false hn), ← ih _ (by simp; omega), hc, Bool.true_and]
     ·have hc' : charB ((decodeL l).1 : Int) = false := by simpa using hc
      have hp : ((((decodeL l).1 : Int), ((decodeL l).2 : Int)).2 = 0 ∨ charB (((decodeL l).1 : Int), ((decodeL l).2 : Int)).1 = false) := .inr hc'
      rw [ite_cond_eq_true (50 : Int) _ (eq_true hp), hc']
      simp
theorem checkR_eq (l : Bs) : checkR (B l) = checkL l.length l := by
 unfold checkR
 rw [B_data, B_size, runesOk_eq, List.drop_zero, check_eq _ _ (Nat.le_refl _)]
def goesB (first : Bool) (l : Bs) : Bool := decide ((firstL l).2 ≠ 0) && partB (firstL l).1 && (!first || startB (firstL l).1)
def nameN : Nat → Bool → Bs → Nat
 | 0, _, _ => 0
 | f + 1, first, l => if l = [] then 0 else if goesB first l then (decodeL l).2 + nameN f false (l.drop (decodeL l).2) else 0
def nameL (l : Bs) : Nat := nameN l.length true l
theorem nameN_fuel : ∀ (f g : Nat) (b : Bool) (l : Bs), l.length ≤ f → l.length ≤ g → nameN f b l = nameN g b l := by
 intro f
 induction f with
 | zero =>
   intro g b l hf _
   have : l = [] := List.eq_nil_of_length_eq_zero (by omega)
   subst this
   cases g <;> simp [nameN]
 | succ f ih =>
   intro g b l hf hg
   cases g with
   | zero =>
     have : l = [] := List.eq_nil_of_length_eq_zero (by omega)
     subst this
     simp [nameN]
   | succ g =>
     unfold nameN
     by_cases h : l = []
     ·rw [if_pos h, if_pos h]
     ·have := wid_pos l
      rw [if_neg h, if_neg h, ih g false _ (by simp; omega) (by simp; omega)]
theorem nameN_le : ∀ (f : Nat) (b : Bool) (l : Bs), nameN f b l ≤ l.length := by
 intro f
 induction f with
 | zero => intro b l; simp [nameN]
 | succ f ih =>
   intro b l
   unfold nameN
   split
   ·omega
   ·rename_i h
    split
    ·have h1 := wid_le l h
     have h2 := ih false (l.drop (decodeL l).2)
     simp at h2
     omega
    ·omega
theorem decodeL_take (l : Bs) (m : Nat) (hm : (decodeL l).2 ≤ m) (hb : ¬ bad l) (h0 : l ≠ []) : decodeL (l.take m) = decodeL l := by
 have hw := wid_pos l
 have hl := wid_le l h0
 have e : ∀ i, i < m → nb (l.take m) i = nb l i := fun i hi => by
  unfold nb
  rw [List.getD_eq_getElem?_getD, List.getD_eq_getElem?_getD, List.getElem?_take_of_lt hi]
 have e0 := e 0 (by omega)
 have l1 := nb_lt l 1; have l2 := nb_lt l 2; have l3 := nb_lt l 3
 have hlen : (l.take m).length = min m l.length := List.length_take
 unfold bad at hb
 rw [decodeL_eq] at hb hm hl ⊢
 rw [decodeL_eq, e0, hlen]
 have c1 : 1 < m → nb (l.take m) 1 = nb l 1 := e 1
 have c2 : 2 < m → nb (l.take m) 2 = nb l 2 := e 2
 have c3 : 3 < m → nb (l.take m) 3 = nb l 3 := e 3
 generalize nb (l.take m) 1 = d1 at *
 generalize nb (l.take m) 2 = d2 at *
 generalize nb (l.take m) 3 = d3 at *
 generalize nb l 0 = b0 at *
 generalize nb l 1 = b1 at *
 generalize nb l 2 = b2 at *
 generalize nb l 3 = b3 at *
 generalize l.length = n at *
 clear e e0 hlen
 unfold decodeN at hm hb hl ⊢
 by_cases h1 : b0 < 128
 ·simp only [if_pos h1]
 ·simp only [if_neg h1] at hm hb hl ⊢
  by_cases h2 : b0 / 32 = 6 ∧ (1 < n ∧ b1 / 64 = 2)
  ·simp only [if_pos h2] at hm hb hl ⊢
   by_cases h3 : b0 % 32 * 64 + b1 % 64 ≥ 128
   ·simp only [if_pos h3] at hm hb hl ⊢
    have := c1 (by omega)
    subst this
    rw [if_pos ⟨h2.1, by omega, h2.2.2⟩, if_pos h3]
   ·simp [h3] at hb
  ·simp only [if_neg h2] at hm hb hl ⊢
   by_cases h4 : b0 / 16 = 14 ∧ (1 < n ∧ b1 / 64 = 2) ∧ (2 < n ∧ b2 / 64 = 2)
   ·simp only [if_pos h4] at hm hb hl ⊢
    split at hm
    ·rename_i h5
     have := c1 (by omega)
     have := c2 (by omega)
     subst d1 d2
     rw [if_neg (by omega), if_pos ⟨h4.1, ⟨by omega, h4.2.1.2⟩, by omega, h4.2.2.2⟩]
    ·rename_i h5; simp [h5] at hb
   ·simp only [if_neg h4] at hm hb hl ⊢
    by_cases h6 : b0 / 8 = 30 ∧ (1 < n ∧ b1 / 64 = 2) ∧ (2 < n ∧ b2 / 64 = 2) ∧ (3 < n ∧ b3 / 64 = 2)
    ·simp only [if_pos h6] at hm hb hl ⊢
     split at hm
     ·rename_i h5
      have := c1 (by omega)
      have := c2 (by omega)
      have := c3 (by omega)
      subst d1 d2 d3
      rw [if_neg (by omega), if_neg (by omega), if_pos ⟨h6.1, ⟨by omega, h6.2.1.2⟩, ⟨by omega, h6.2.2.1.2⟩, by omega, h6.2.2.2.2⟩]
     ·rename_i h5; simp [h5] at hb
    ·simp [if_neg h6] at hb
end Go.Proofs.YtadgeghipimfiaaGreatDoor.U
end
section
namespace Go.Proofs.YtadgeghipimfiaaGreatDoor.U
open Go.RowKit Go.Lib Go.Proofs.YtadgeghipimfiaaGreatDoorW.PrintWords Go.Proofs.YtadgeghipimfiaaGreatDoor.X Go.Proofs.YtadgeghipimfiaaGreatDoor.Pg
theorem extract_tail (l : Bs) (n : Nat) : (B l).extract n (B l).size = B (l.drop n) := by rw [B_extract, B_size, List.take_length]
theorem extract_head (l : Bs) (n : Nat) : (B l).extract 0 n = B (l.take n) := by rw [B_extract, List.drop_zero]
theorem first_ok {l : Bs} (h : (firstL l).2 ≠ 0) : l ≠ [] ∧ ¬ bad l ∧ firstL l = (((decodeL l).1 : Int), ((decodeL l).2 : Int)) := by
 by_cases h0 : l = []
 ·subst h0; exact absurd rfl h
 ·by_cases hb : bad l
  ·rw [firstL_bad hb] at h; exact absurd rfl h
  ·exact ⟨h0, hb, firstL_good h0 hb⟩
theorem decodeL_lt (l : Bs) : (decodeL l).1 < 4611686018427387904 := by
 rw [decodeL_eq]
 have l0 := nb_lt l 0; have l1 := nb_lt l 1; have l2 := nb_lt l 2; have l3 := nb_lt l 3
 unfold decodeN
 split
 ·simp only; omega
 ·split
  ·split <;> simp only <;> omega
  ·split
   ·split <;> simp only <;> omega
   ·split
    ·split <;> simp only <;> omega
    ·simp only; omega
theorem val_ne (c d : UInt8) (h : c ≠ d) : ¬ ((c.toNat : Nat) : Int) = ((d.toNat : Nat) : Int) := fun hh => h (UInt8.toNat_inj.1 (by omega))
theorem bt_val (l : Bs) (i : Nat) (h : i < l.length) : bt (B l) (i : Int) = (l[i].toNat : Int) := B_bt l i h
def nameRes (s : Bs) (n : Nat) : ByteArray × ByteArray × Int := if n = 0 then ((⟨#[]⟩ : ByteArray), (⟨#[]⟩ : ByteArray), 51) else (B (s.take n), B (s.drop n), 0)
theorem gname_end (s : Bs) (p : Nat) :
  (if (p : Int) = 0 then (some ((⟨#[]⟩ : ByteArray), (⟨#[]⟩ : ByteArray), (51 : Int))) else (some ((B s).extract 0 ((p : Int) : Int).toNat, (B s).extract ((p : Int) : Int).toNat (B s).size, 0))) = some (nameRes s p) := by
 unfold nameRes
 by_cases h : p = 0
 ·subst h; rw [if_pos (show ((0 : Nat) : Int) = 0 from rfl), if_pos rfl]
 ·rw [if_neg (by omega), if_neg h, Int.toNat_natCast, extract_head, extract_tail]
theorem nameN_step (d : Nat) (b : Bool) (l : Bs) (h0 : l ≠ []) : nameN (d + 1) b l = if goesB b l then (decodeL l).2 + nameN d false (l.drop (decodeL l).2) else 0 := by
 conv => lhs; unfold nameN
 rw [if_neg h0]
theorem gname_l0 (s : Bs) (hs : s.length < 4611686018427387904) : ∀ (d p : Nat), p ≤ s.length → s.length - p ≤ d → Ev (fun k => glyph_Name.l0 k (B s) (p : Int)) (nameRes s (p + nameN d (decide (p = 0)) (s.drop p))) := by
 intro d
 induction d with
 | zero =>
   intro p hp hd
   refine Ev.step (fun k => (show glyph_Name.l0 (k + 1) (B s) (p : Int) = _ from by rw [glyph_Name.l0])) ?_
   simp only [if_neg (show ¬ (p : Int) < ((B s).size : Int) by rw [B_size]; omega), if_pos (show (0 : Int) ≤ (p : Int) by omega), if_pos (show (p : Int) ≤ ((B s).size : Int) by rw [B_size]; omega)]
   rw [gname_end]
   exact Ev.now _
 | succ d ih =>
   intro p hp hd
   refine Ev.step (fun k => (show glyph_Name.l0 (k + 1) (B s) (p : Int) = _ from by rw [glyph_Name.l0])) ?_
   simp only [if_pos (show (0 : Int) ≤ (p : Int) by omega), if_pos (show (p : Int) ≤ ((B s).size : Int) by rw [B_size]; omega)]
   rw [gname_end]
   by_cases h : p < s.length
   ·have h0 : s.drop p ≠ [] := by simp; omega
    rw [nameN_step _ _ _ h0]
    have hlt := decodeL_lt (s.drop p)
    have hwr : wrap64 (((decodeL (s.drop p)).1 : Nat) : Int) = ((decodeL (s.drop p)).1 : Int) := w64 (by omega) (by omega)
    have hw := wid_pos (s.drop p)
    have hl := wid_le _ h0
    rw [List.length_drop] at hl
    have hwp : wrap64 ((p : Int) + ((decodeL (s.drop p)).2 : Int)) = ((p + (decodeL (s.drop p)).2 : Nat) : Int) := by rw [w64 (by omega) (by omega)]; rfl
    simp only [if_pos (show (p : Int) < ((B s).size : Int) by rw [B_size]; omega), Int.toNat_natCast, extract_tail, utf8_DecodeRuneInString.f, Option.bind_some, decodeGo_eq _ h0, hwr, hwp, glyph_Part.f, glyph_Start.f]
    have q := ih (p + (decodeL (s.drop p)).2) (by omega) (by omega)
    rw [decide_eq_false (show ¬ p + (decodeL (s.drop p)).2 = 0 by omega), Nat.add_assoc] at q
    rw [List.drop_drop]
    have good : ¬ bad (s.drop p) → Ev (fun k => if partB ((decodeL (s.drop p)).1 : Int) = true then (if (p : Int) = 0 then (if startB ((decodeL (s.drop p)).1 : Int) = true then (glyph_Name.l0 k (B s) ((p + (decodeL (s.drop p)).2 : Nat) : Int)) else (some ((⟨#[]⟩ : ByteArray), (⟨#[]⟩ : ByteArray), 51))) else (glyph_Name.l0 k (B s) ((p + (decodeL (s.drop p)).2 : Nat) : Int))) else some (nameRes s p)) (nameRes s (p + if goesB (decide (p = 0)) (s.drop p) = true then (decodeL (s.drop p)).2 + nameN d false (s.drop (p + (decodeL (s.drop p)).2)) else 0)) := by
     intro hb
     have e := firstL_good h0 hb
     have hz : ¬ (firstL (s.drop p)).2 = 0 := by rw [e]; simp only; omega
     by_cases hpart : partB ((decodeL (s.drop p)).1 : Int) = true
     ·simp only [if_pos hpart]
      by_cases h00 : p = 0
      ·simp only [if_pos (show (p : Int) = 0 by omega)]
       by_cases hst : startB ((decodeL (s.drop p)).1 : Int) = true
       ·have hg : goesB (decide (p = 0)) (s.drop p) = true := by unfold goesB; rw [decide_eq_true hz, e]; simp [hpart, hst]
        simp only [if_pos hst, hg, if_true]
        exact q
       ·have hg : goesB (decide (p = 0)) (s.drop p) = false := by unfold goesB; rw [decide_eq_true hz, e, decide_eq_true h00]; simp [hst]
        simp only [if_neg hst, hg, Bool.false_eq_true, if_false]
        subst h00
        exact Ev.now _
      ·have hg : goesB (decide (p = 0)) (s.drop p) = true := by unfold goesB; rw [decide_eq_true hz, e, decide_eq_false h00]; simp [hpart]
       simp only [if_neg (show ¬ (p : Int) = 0 by omega), hg, if_true]
       exact q
     ·have hg : goesB (decide (p = 0)) (s.drop p) = false := by unfold goesB; rw [e]; simp [hpart]
      simp only [if_neg hpart, hg, Bool.false_eq_true, if_false]
      exact Ev.now _
    by_cases h1 : (decodeL (s.drop p)).1 = 65533
    ·by_cases h2 : (decodeL (s.drop p)).2 = 1
     ·have hg : goesB (decide (p = 0)) (s.drop p) = false := by unfold goesB; rw [firstL_bad ⟨h1, h2⟩]; simp
      simp only [if_pos (show ((decodeL (s.drop p)).1 : Int) = 65533 by omega), if_pos (show ((decodeL (s.drop p)).2 : Int) = 1 by omega), hg, Bool.false_eq_true, if_false]
      exact Ev.now _
     ·simp only [if_pos (show ((decodeL (s.drop p)).1 : Int) = 65533 by omega), if_neg (show ¬ ((decodeL (s.drop p)).2 : Int) = 1 by omega)]
      exact good (fun hb => h2 hb.2)
    ·simp only [if_neg (show ¬ ((decodeL (s.drop p)).1 : Int) = 65533 by omega)]
     exact good (fun hb => h1 hb.1)
   ·have e : s.drop p = [] := List.drop_eq_nil_of_le (by omega)
    have en : nameN (d + 1) (decide (p = 0)) (s.drop p) = 0 := by rw [e]; rfl
    rw [en]
    simp only [if_neg (show ¬ (p : Int) < ((B s).size : Int) by rw [B_size]; omega)]
    exact Ev.now _
theorem gname_ev (s : Bs) (hs : s.length < 4611686018427387904) : Ev (fun k => glyph_Name.f k (B s)) (nameRes s (nameL s)) := by
 have := gname_l0 s hs s.length 0 (by omega) (by omega)
 rw [Nat.zero_add] at this
 unfold glyph_Name.f
 exact this
def noC (l : Bs) : Bool := l.all fun c => c != 58
def plainB (s : Bs) : Bool := decide (nameL s ≠ 0) && decide (nameL s = s.length) && noC s
theorem noC_index : ∀ (l : Bs), (!decide (0 ≤ indexByte l 58)) = noC l := by
 intro l
 induction l with
 | nil => rfl
 | cons c t ih =>
   unfold noC at ih ⊢
   rw [List.all_cons, ← ih]
   have hge := indexByte_ge t 58
   by_cases h : c = 58
   ·subst h; simp [indexByte]
   ·have : (c == 58) = false := by simp [h]
    simp only [indexByte, this, bne, Bool.not_false, Bool.true_and, Bool.false_eq_true, if_false]
    congr 1
    split
    ·rename_i hi
     simp only [beq_iff_eq] at hi
     rw [hi]
    ·rename_i hi
     simp only [beq_iff_eq] at hi
     rw [decide_eq_decide]
     omega
theorem nameL_le (s : Bs) : nameL s ≤ s.length := nameN_le _ _ _
theorem nameRes_zero {s : Bs} {n : Nat} (h : n = 0) : nameRes s n = ((⟨#[]⟩ : ByteArray), (⟨#[]⟩ : ByteArray), 51) := by unfold nameRes; rw [if_pos h]
theorem nameRes_some {s : Bs} {n : Nat} (h : n ≠ 0) : nameRes s n = (B (s.take n), B (s.drop n), 0) := by unfold nameRes; rw [if_neg h]
theorem gplain_ev (s : Bs) (hs : s.length < 4611686018427387904) : Ev (fun k => glyph_Plain.f k (B s)) (plainB s) := by
 unfold glyph_Plain.f
 refine Ev.bind (gname_ev s hs) ?_
 have hle := nameL_le s
 unfold plainB
 by_cases h0 : nameL s = 0
 ·rw [nameRes_zero h0]
  simp only [if_neg (show ¬ (51 : Int) = 0 by decide), h0, ne_eq, not_true_eq_false, decide_false, Bool.false_and]
  exact Ev.now _
 ·rw [nameRes_some h0]
  simp only [if_true, ne_eq, h0, not_false_eq_true, decide_true, Bool.true_and, B_toList]
  by_cases h1 : nameL s = s.length
  ·have e : s.drop (nameL s) = [] := List.drop_eq_nil_of_le (by omega)
   have ec : strings_Contains.f (B s) (⟨#[58]⟩ : ByteArray) = some (decide (0 ≤ indexByte s 58)) := rfl
   simp only [e, if_true, decide_eq_true h1, Bool.true_and, ec, Option.bind_some, noC_index]
   exact Ev.now _
  ·have e : s.drop (nameL s) ≠ [] := by simp; omega
   simp only [if_neg e, decide_eq_false h1, Bool.false_and]
   exact Ev.now _
theorem ra_len : ∀ (n : Nat) (l : Bs), l.length ≤ n → (replaceAll l [13, 10] [10]).length ≤ l.length := by
 have a0 : ([13, 10] : Bs) ≠ [] := by decide
 have a1 : ([13, 10] : Bs) ≠ [10] := by decide
 intro n
 induction n with
 | zero =>
   intro l hl
   have : l = [] := List.eq_nil_of_length_eq_zero (by omega)
   subst this
   rw [ra_nil a0 a1]
   simp
 | succ n ih =>
   intro l hl
   match l, hl with
   | [], _ => rw [ra_nil a0 a1]; simp
   | c :: t, hl =>
     have hl' : t.length ≤ n := by simpa using hl
     cases hp : ([13, 10] : Bs).isPrefixOf (c :: t) with
     | true =>
       rw [ra_cons_hit a0 a1 hp]
       match t, hl', hp with
       | [], _, hp => simp [List.isPrefixOf] at hp
       | d :: t, hl', _ =>
         have := ih t (by simp at hl'; omega)
         simp
         omega
     | false =>
       rw [ra_cons_miss a0 a1 hp]
       have := ih t hl'
       simp
       omega
theorem glines (l : Bs) (hl : l.length < 100000000) : glyph_Lines.f (B l) = some (B (linesL l)) := by
 have e1 : strings_ReplaceAll.f (B l) (⟨#[13, 10]⟩ : ByteArray) (⟨#[10]⟩ : ByteArray) = some (B (replaceAll l [13, 10] [10])) := by
  have := countB_le (⟨#[13, 10]⟩ : ByteArray) (by decide) _ (B l) (Nat.le_refl _)
  rw [B_size] at this
  unfold strings_ReplaceAll.f
  rw [B_size, if_pos ⟨by omega, by decide, by rw [show (⟨#[10]⟩ : ByteArray).size = 1 from rfl]; omega⟩]
  rfl
 have hlen : (replaceAll l [13, 10] [10]).length ≤ l.length := by
  exact ra_len _ l (Nat.le_refl _)
 have e2 : strings_ReplaceAll.f (B (replaceAll l [13, 10] [10])) (⟨#[13]⟩ : ByteArray) (⟨#[10]⟩ : ByteArray) = some (B (linesL l)) := by
  have := countB_le (⟨#[13]⟩ : ByteArray) (by decide) _ (B (replaceAll l [13, 10] [10])) (Nat.le_refl _)
  rw [B_size] at this
  unfold strings_ReplaceAll.f
  rw [B_size, if_pos ⟨by omega, by decide, by rw [show (⟨#[10]⟩ : ByteArray).size = 1 from rfl]; omega⟩, ← ra_both _ l (Nat.le_refl _)]
  rfl
 unfold glyph_Lines.f
 rw [e1, Option.bind_some, e2]
 rfl
end Go.Proofs.YtadgeghipimfiaaGreatDoor.U
end
section
namespace Go.Proofs.YtadgeghipimfiaaGreatDoor.Pg
open Go.RowKit Go.Proofs.YtadgeghipimfiaaGreatDoorW.PrintWords Go.Proofs.YtadgeghipimfiaaGreatDoorW.PrintLast Go.Proofs.YtadgeghipimfiaaGreatDoorW.PrintMore
open Go.Proofs.YtadgeghipimfiaaGreatDoor.X
set_option linter.unusedVariables false
set_option linter.unusedSimpArgs false
def prefix_may.f (a0 : ByteArray) (a1 : ByteArray) : Option (Bool) := if a0.toList = ([120, 109, 108] : List UInt8) then (some (a1.toList == ([104, 116, 116, 112, 58, 47, 47, 119, 119, 119, 46, 119, 51, 46, 111, 114, 103, 47, 88, 77, 76, 47, 49, 57, 57, 56, 47, 110, 97, 109, 101, 115, 112, 97, 99, 101] : List UInt8))) else (if a0.toList = ([120, 109, 108, 110, 115] : List UInt8) then (some false) else (if a1.toList = ([104, 116, 116, 112, 58, 47, 47, 119, 119, 119, 46, 119, 51, 46, 111, 114, 103, 47, 88, 77, 76, 47, 49, 57, 57, 56, 47, 110, 97, 109, 101, 115, 112, 97, 99, 101] : List UInt8) then (some false) else (if a1.toList = ([104, 116, 116, 112, 58, 47, 47, 119, 119, 119, 46, 119, 51, 46, 111, 114, 103, 47, 50, 48, 48, 48, 47, 120, 109, 108, 110, 115, 47] : List UInt8) then (some false) else (if a0.toList = ([] : List UInt8) then (some true) else (some (a1.toList != ([] : List UInt8)))))))
set_option maxHeartbeats 8000000 in
set_option maxRecDepth 100000 in
theorem prefix_may.calls (a0 : ByteArray) (a1 : ByteArray) (r : Bool) (w : World) (h : prefix_may.f a0 a1 = some r) :
  Calls Tryz.prog 139 #[.string a0, .string a1] w fun e w' => e = .returned (.bool r) ∧ Drawn0 w w' := by
 have H : (if a0.toList = ([120, 109, 108] : List UInt8) then (some (a1.toList == ([104, 116, 116, 112, 58, 47, 47, 119, 119, 119, 46, 119, 51, 46, 111, 114, 103, 47, 88, 77, 76, 47, 49, 57, 57, 56, 47, 110, 97, 109, 101, 115, 112, 97, 99, 101] : List UInt8))) else (if a0.toList = ([120, 109, 108, 110, 115] : List UInt8) then (some false) else (if a1.toList = ([104, 116, 116, 112, 58, 47, 47, 119, 119, 119, 46, 119, 51, 46, 111, 114, 103, 47, 88, 77, 76, 47, 49, 57, 57, 56, 47, 110, 97, 109, 101, 115, 112, 97, 99, 101] : List UInt8) then (some false) else (if a1.toList = ([104, 116, 116, 112, 58, 47, 47, 119, 119, 119, 46, 119, 51, 46, 111, 114, 103, 47, 50, 48, 48, 48, 47, 120, 109, 108, 110, 115, 47] : List UInt8) then (some false) else (if a0.toList = ([] : List UInt8) then (some true) else (some (a1.toList != ([] : List UInt8)))))))) = some r := h
 clear h
 by_cases c3 : a0.toList = ([120, 109, 108] : List UInt8)
 ·rw [if_pos c3] at H
  have c3b0 : (a0.toList == ([120, 109, 108] : List UInt8)) = true := beq_iff_eq.mpr c3
  have c3b1 : (a0.toList != ([120, 109, 108] : List UInt8)) = false := bne_eq_false_iff_eq.mpr c3
  clear c3
  obtain rfl := Option.some.inj H
  go_enter Tryz.func139, Tryz.ntmps139
  go_wp2
  go_ret
  exact ⟨by first | rfl | (simp; done) | (simp [*]; done) | (simp [xx_ne_nil, xx_eq_nil]; done) | (simp [*, xx_ne_nil, xx_eq_nil]; done), by repeat (first | exact Drawn0.refl _ | apply Drawn0.step)⟩
 ·rw [if_neg c3] at H
  have c3b0 : (a0.toList == ([120, 109, 108] : List UInt8)) = false := beq_eq_false_iff_ne.mpr c3
  have c3b1 : (a0.toList != ([120, 109, 108] : List UInt8)) = true := bne_iff_ne.mpr c3
  by_cases c4 : a0.toList = ([120, 109, 108, 110, 115] : List UInt8)
  ·rw [if_pos c4] at H
   have c4b0 : (a0.toList == ([120, 109, 108, 110, 115] : List UInt8)) = true := beq_iff_eq.mpr c4
   have c4b1 : (a0.toList != ([120, 109, 108, 110, 115] : List UInt8)) = false := bne_eq_false_iff_eq.mpr c4
   clear c4
   obtain rfl := Option.some.inj H
   go_enter Tryz.func139, Tryz.ntmps139
   go_wp2
   go_ret
   exact ⟨by first | rfl | (simp; done) | (simp [*]; done) | (simp [xx_ne_nil, xx_eq_nil]; done) | (simp [*, xx_ne_nil, xx_eq_nil]; done), by repeat (first | exact Drawn0.refl _ | apply Drawn0.step)⟩
  ·rw [if_neg c4] at H
   have c4b0 : (a0.toList == ([120, 109, 108, 110, 115] : List UInt8)) = false := beq_eq_false_iff_ne.mpr c4
   have c4b1 : (a0.toList != ([120, 109, 108, 110, 115] : List UInt8)) = true := bne_iff_ne.mpr c4
   by_cases c5 : a1.toList = ([104, 116, 116, 112, 58, 47, 47, 119, 119, 119, 46, 119, 51, 46, 111, 114, 103, 47, 88, 77, 76, 47, 49, 57, 57, 56, 47, 110, 97, 109, 101, 115, 112, 97, 99, 101] : List UInt8)
   ·rw [if_pos c5] at H
    have c5b0 : (a1.toList == ([104, 116, 116, 112, 58, 47, 47, 119, 119, 119, 46, 119, 51, 46, 111, 114, 103, 47, 88, 77, 76, 47, 49, 57, 57, 56, 47, 110, 97, 109, 101, 115, 112, 97, 99, 101] : List UInt8)) = true := beq_iff_eq.mpr c5
    have c5b1 : (a1.toList != ([104, 116, 116, 112, 58, 47, 47, 119, 119, 119, 46, 119, 51, 46, 111, 114, 103, 47, 88, 77, 76, 47, 49, 57, 57, 56, 47, 110, 97, 109, 101, 115, 112, 97, 99, 101] : List UInt8)) = false := bne_eq_false_iff_eq.mpr c5
    clear c5
    obtain rfl := Option.some.inj H
    go_enter Tryz.func139, Tryz.ntmps139
    go_wp2
    go_ret
    exact ⟨by first | rfl | (simp; done) | (simp [*]; done) | (simp [xx_ne_nil, xx_eq_nil]; done) | (simp [*, xx_ne_nil, xx_eq_nil]; done), by repeat (first | exact Drawn0.refl _ | apply Drawn0.step)⟩
   ·rw [if_neg c5] at H
    have c5b0 : (a1.toList == ([104, 116, 116, 112, 58, 47, 47, 119, 119, 119, 46, 119, 51, 46, 111, 114, 103, 47, 88, 77, 76, 47, 49, 57, 57, 56, 47, 110, 97, 109, 101, 115, 112, 97, 99, 101] : List UInt8)) = false := beq_eq_false_iff_ne.mpr c5
    have c5b1 : (a1.toList != ([104, 116, 116, 112, 58, 47, 47, 119, 119, 119, 46, 119, 51, 46, 111, 114, 103, 47, 88, 77, 76, 47, 49, 57, 57, 56, 47, 110, 97, 109, 101, 115, 112, 97, 99, 101] : List UInt8)) = true := bne_iff_ne.mpr c5
    by_cases c6 : a1.toList = ([104, 116, 116, 112, 58, 47, 47, 119, 119, 119, 46, 119, 51, 46, 111, 114, 103, 47, 50, 48, 48, 48, 47, 120, 109, 108, 110, 115, 47] : List UInt8)
    ·rw [if_pos c6] at H
     have c6b0 : (a1.toList == ([104, 116, 116, 112, 58, 47, 47, 119, 119, 119, 46, 119, 51, 46, 111, 114, 103, 47, 50, 48, 48, 48, 47, 120, 109, 108, 110, 115, 47] : List UInt8)) = true := beq_iff_eq.mpr c6
     have c6b1 : (a1.toList != ([104, 116, 116, 112, 58, 47, 47, 119, 119, 119, 46, 119, 51, 46, 111, 114, 103, 47, 50, 48, 48, 48, 47, 120, 109, 108, 110, 115, 47] : List UInt8)) = false := bne_eq_false_iff_eq.mpr c6
     clear c6
     obtain rfl := Option.some.inj H
     go_enter Tryz.func139, Tryz.ntmps139
     go_wp2
     go_ret
     exact ⟨by first | rfl | (simp; done) | (simp [*]; done) | (simp [xx_ne_nil, xx_eq_nil]; done) | (simp [*, xx_ne_nil, xx_eq_nil]; done), by repeat (first | exact Drawn0.refl _ | apply Drawn0.step)⟩
    ·rw [if_neg c6] at H
     have c6b0 : (a1.toList == ([104, 116, 116, 112, 58, 47, 47, 119, 119, 119, 46, 119, 51, 46, 111, 114, 103, 47, 50, 48, 48, 48, 47, 120, 109, 108, 110, 115, 47] : List UInt8)) = false := beq_eq_false_iff_ne.mpr c6
     have c6b1 : (a1.toList != ([104, 116, 116, 112, 58, 47, 47, 119, 119, 119, 46, 119, 51, 46, 111, 114, 103, 47, 50, 48, 48, 48, 47, 120, 109, 108, 110, 115, 47] : List UInt8)) = true := bne_iff_ne.mpr c6
     by_cases c7 : a0.toList = ([] : List UInt8)
     ·rw [if_pos c7] at H
      have c7b0 : (a0.toList == ([] : List UInt8)) = true := beq_iff_eq.mpr c7
      have c7b1 : (a0.toList != ([] : List UInt8)) = false := bne_eq_false_iff_eq.mpr c7
      have c7b2 : (a0.toList).isEmpty = true := List.isEmpty_iff.mpr c7
      have c7b3 : (!(a0.toList).isEmpty) = false := by rw [c7b2]; rfl
      clear c7
      obtain rfl := Option.some.inj H
      go_enter Tryz.func139, Tryz.ntmps139
      go_wp2
      all_goals try (exact absurd (by assumption : (!(a0.toList).isEmpty) = true) (by rw [c7b2]; decide))
      go_ret
      exact ⟨by first | rfl | (simp; done) | (simp [*]; done) | (simp [xx_ne_nil, xx_eq_nil]; done) | (simp [*, xx_ne_nil, xx_eq_nil]; done), by repeat (first | exact Drawn0.refl _ | apply Drawn0.step)⟩
     ·rw [if_neg c7] at H
      have c7b0 : (a0.toList == ([] : List UInt8)) = false := beq_eq_false_iff_ne.mpr c7
      have c7b1 : (a0.toList != ([] : List UInt8)) = true := bne_iff_ne.mpr c7
      have c7b2 : (a0.toList).isEmpty = false := List.isEmpty_eq_false_iff.mpr c7
      have c7b3 : (!(a0.toList).isEmpty) = true := by rw [c7b2]; rfl
      obtain rfl := Option.some.inj H
      go_enter Tryz.func139, Tryz.ntmps139
      go_wp2
      all_goals try (exact absurd (by assumption : (!(a0.toList).isEmpty) = false) (by rw [c7b2]; decide))
      go_ret
      exact ⟨by first | rfl | (simp; done) | (simp [*]; done) | (simp [xx_ne_nil, xx_eq_nil]; done) | (simp [*, xx_ne_nil, xx_eq_nil]; done), by repeat (first | exact Drawn0.refl _ | apply Drawn0.step)⟩
mutual
def prefix_Declare.l0 : Nat → List (S144) → List (S144) → List (S144) → Int → Int → Option ((List (S144)) × (List (S144)) × Int)
 | 0, _, _, _, _, _ => none
 | k + 1, x2, x3, x10, x11, x12 => if x12 < x11 then (if 0 ≤ x12 then (if x12 < (x10.length : Int) then ((prefix_Split.f k ((rd_T144 x10 x12).f0)).bind fun bt178 => (if bt178.2.2 = 0 then (if bt178.1.toList = ([] : List UInt8) then (prefix_Declare.j1 k x2 x3 bt178.1 bt178.2.1 x10 x11 x12 (bt178.2.1.toList == ([120, 109, 108, 110, 115] : List UInt8)) ((rd_T144 x10 x12).f0) ((rd_T144 x10 x12).f1)) else (prefix_Declare.j1 k x2 x3 bt178.1 bt178.2.1 x10 x11 x12 false ((rd_T144 x10 x12).f0) ((rd_T144 x10 x12).f1))) else (some (([] : List (S144)), ([] : List (S144)), bt178.2.2)))) else (none)) else (none)) else (some (x2, x3, 0))
def prefix_Declare.j1 : Nat → List (S144) → List (S144) → ByteArray → ByteArray → List (S144) → Int → Int → Bool → ByteArray → ByteArray → Option ((List (S144)) × (List (S144)) × Int)
 | 0, _, _, _, _, _, _, _, _, _, _ => none
 | k + 1, x2, x3, x7, x8, x10, x11, x12, x27, x178000, x178001 => if x27 = true then ((prefix_may.f (⟨#[]⟩ : ByteArray) x178001).bind fun t181 => (if t181 = true then (if x2.length < 4398046511104 then (prefix_Declare.l0 k (x2 ++ [(⟨(⟨#[]⟩ : ByteArray), x178001⟩ : S144)]) x3 x10 x11 (wrap64 (x12 + 1))) else (none)) else (some (([] : List (S144)), ([] : List (S144)), 80)))) else (if x7.toList = ([120, 109, 108, 110, 115] : List UInt8) then ((prefix_may.f x8 x178001).bind fun t185 => (if t185 = true then (if x2.length < 4398046511104 then (prefix_Declare.l0 k (x2 ++ [(⟨x8, x178001⟩ : S144)]) x3 x10 x11 (wrap64 (x12 + 1))) else (none)) else (some (([] : List (S144)), ([] : List (S144)), 80)))) else (if x3.length < 4398046511104 then (prefix_Declare.l0 k x2 (x3 ++ [(⟨x178000, x178001⟩ : S144)]) x10 x11 (wrap64 (x12 + 1))) else (none)))
end
def prefix_Declare.f (k : Nat) (l0 : List (S144)) : Option ((List (S144)) × (List (S144)) × Int) := prefix_Declare.l0 k ([] : List (S144)) ([] : List (S144)) l0 (l0.length : Int) 0
set_option maxHeartbeats 8000000 in
set_option maxRecDepth 100000 in
theorem prefix_Declare.calls (k : Nat) (A0 : Option Addr) (c0 : Nat) (l0 : List (S144)) (r1 : List (S144)) (r2 : List (S144)) (r3 : Int) (w : World) (hG : Glob w) (hr0 : Kd.C k144 w A0 l0.length l0) (hc0 : l0.length ≤ c0) (h : prefix_Declare.f k l0 = some (r1, r2, r3)) :
  Calls Tryz.prog 104 #[.slice A0 l0.length c0] w fun e w' => ∃ v0_ v1_ : Value, e = .returned (.tuple #[v0_, v1_, .int .i64 r3]) ∧ Kd.R k144 144 w' w.heap.size (fun k_ => some k_ ≠ (v1_ : Value).ownBlock) v0_ r1 ∧ Kd.R k144 144 w' w.heap.size (fun k_ => some k_ ≠ (v0_ : Value).ownBlock) v1_ r2 ∧ Below w.heap.size w w' := by
 have HG := Aside0.mk hG
 clear hG
 have hu144 := Tryz.underlying144
 have HR0 := Aside0.mk hr0
 have HC0 := Aside0.mk hc0
 clear hr0 hc0
 have HB := Aside0.mk (Below.refl w.heap.size w)
 have H : (prefix_Declare.l0 k ([] : List (S144)) ([] : List (S144)) l0 (l0.length : Int) 0) = some (r1, r2, r3) := h
 clear h
 have H' := Aside0.mk H
 clear H
 go_enter Tryz.func104, Tryz.ntmps104
 go_wp2
 go_loopg [2, 3, 12] k (fun kq v2 v3 v12 w' => ∃ (x2_1 : List (S144)) (x3_1 : List (S144)) (x12_1 : Int), v12 = .int .i64 x12_1 ∧ Aside0 (prefix_Declare.l0 kq x2_1 x3_1 l0 (l0.length : Int) x12_1 = some (r1, r2, r3)) ∧ Aside0 (kq ≤ k) ∧ Aside0 (Kd.R k144 144 w' w.heap.size (fun k_ => some k_ ≠ (v3 : Value).ownBlock) v2 x2_1) ∧ Aside0 (Kd.R k144 144 w' w.heap.size (fun k_ => some k_ ≠ (v2 : Value).ownBlock) v3 x3_1) ∧ Aside0 (Below w.heap.size w w'))
 case atStart => exact ⟨(([] : List (S144))), (([] : List (S144))), (0), (by first | rfl | (simp; done) | (simp [*]; done) | (simp [xx_ne_nil, xx_eq_nil]; done) | (simp [*, xx_ne_nil, xx_eq_nil]; done)), H', ⟨Nat.le_refl _⟩, ⟨by first | exact Kd.R_nil _ _ _ _ _ | exact Kd.N_nil _ _ _ _ _ | exact Kd.V_nil _ _ _ _ _ | exact Kd.Q_nil _ _ _ _ _ | exact Kd.S_nil _ _ _ _ _⟩, ⟨by first | exact Kd.R_nil _ _ _ _ _ | exact Kd.N_nil _ _ _ _ _ | exact Kd.V_nil _ _ _ _ _ | exact Kd.Q_nil _ _ _ _ _ | exact Kd.S_nil _ _ _ _ _⟩, ⟨by repeat (first | (with_reducible first | exact HB.out | apply below_alloc | apply pw_below_drewN | apply below_drew1) | exact HB.out)⟩⟩
 case round =>
  clear H'
  try clear c1
  obtain ⟨x2_1, x3_1, x12_1, rfl, HA, HK1, HO_2, HO_3, HB⟩ := hrel
  cases gk with
  | zero => exact absurd HA.out (by simp [prefix_Declare.l0])
  | succ k1 =>
    have H := HA.out
    clear HA
    simp only [prefix_Declare.l0] at H
    by_cases c2 : x12_1 < (l0.length : Int)
    ·rw [if_pos c2] at H
     have c2b0 : decide (x12_1 < (l0.length : Int)) = true := decide_eq_true c2
     clear c2
     by_cases c3 : 0 ≤ x12_1
     ·rw [if_pos c3] at H
      have c3b0 : decide (0 ≤ x12_1) = true := decide_eq_true c3
      clear c3
      by_cases c4 : x12_1 < (l0.length : Int)
      ·rw [if_pos c4] at H
       have c4b0 : decide (x12_1 < (l0.length : Int)) = true := decide_eq_true c4
       clear c4
       replace H := Option.bind_eq_some_iff.mp H
       obtain ⟨⟨t178, t179, t180⟩, A50, H⟩ := H
       replace H : (if t180 = 0 then (if t178.toList = ([] : List UInt8) then (prefix_Declare.j1 k1 x2_1 x3_1 t178 t179 l0 (l0.length : Int) x12_1 (t179.toList == ([120, 109, 108, 110, 115] : List UInt8)) ((rd_T144 l0 x12_1).f0) ((rd_T144 l0 x12_1).f1)) else (prefix_Declare.j1 k1 x2_1 x3_1 t178 t179 l0 (l0.length : Int) x12_1 false ((rd_T144 l0 x12_1).f0) ((rd_T144 l0 x12_1).f1))) else (some (([] : List (S144)), ([] : List (S144)), t180))) = some (r1, r2, r3) := H
       have A5 := Aside0.mk A50
       clear A50
       by_cases c6 : t180 = 0
       ·rw [if_pos c6] at H
        have c6b0 : (t180 == 0) = true := beq_iff_eq.mpr c6
        have c6b1 : (t180 != 0) = false := bne_eq_false_iff_eq.mpr c6
        clear c6
        have HC7 := Aside0.mk H
        clear H
        have p176 : 0 ≤ (x12_1 : Int) := of_decide_eq_true (by first | (with_reducible assumption) | assumption)
        have q176 : x12_1 < (l0.length : Int) := of_decide_eq_true (by first | (with_reducible assumption) | assumption)
        obtain ⟨ad176, e176, hx176_0, hx176_1⟩ := at_T144 HR0.out x12_1 p176 q176
        cases e176
        replace hx176_0 := (HB.out.cell (World.block_lt_of_cell? w _ hx176_0)).trans hx176_0
        replace hx176_1 := (HB.out.cell (World.block_lt_of_cell? w _ hx176_1)).trans hx176_1
        replace p176 := eq_true p176
        replace q176 := eq_true q176
        go_upto_region 7 with (first | ((with_reducible refine gate_dst (N := 6) rfl ?_); refine box_event ?hg (N := 6) ?hd (cs := #[.string (⟨#[]⟩ : ByteArray), .string (⟨#[]⟩ : ByteArray)]) (t := 144) ?hr ?_; (case hd => rfl); (case hg => rfl); (case hr => first | (go_simp; done) | (go_simp; rfl)); intro gb177 hg w8 hbox hb; have n0_ := Aside0.mk (Kd.R_below (Kd.R_elderB (by (with_reducible repeat (first | apply Kd.R_alloc | apply Kd.R_drewN | apply Kd.R_drew)); exact HO_2.out) gb177 (Nat.le_of_eq hg.symm)) hb); have n1_ := Aside0.mk (Kd.R_below (Kd.R_elderB (by (with_reducible repeat (first | apply Kd.R_alloc | apply Kd.R_drewN | apply Kd.R_drew)); exact HO_3.out) gb177 (Nat.le_of_eq hg.symm)) hb); have n2_ := Aside0.mk (below_step (by repeat (first | (with_reducible first | exact HB.out | apply below_alloc | apply pw_below_drewN | apply below_drew1) | exact HB.out)) hb); have n3_ := Aside0.mk (hbox); have n4_ := Aside0.mk ((by rw [hg]; exact (below_size (by repeat (first | (with_reducible first | exact HB.out | apply below_alloc | apply pw_below_drewN | apply below_drew1) | exact HB.out))) : w.heap.size ≤ gb177)); have n5_ := Aside0.mk ((by rw [hg]; exact (below_size (by repeat (first | (with_reducible first | exact HB.out | apply below_alloc | apply pw_below_drewN | apply below_drew1) | exact HB.out))) : w.heap.size ≤ gb177)); clear HO_2; clear HO_3; clear HB; have HO_2 := n0_; have HO_3 := n1_; have HB := n2_; have BK177 := n3_; have GW177 := n4_; have GE177 := n5_; clear n0_ n1_ n2_ n3_ n4_ n5_; clear hb hbox hg; have hcz9_0 : w8.cell? ⟨gb177, 0, none⟩ = some (.string (⟨#[]⟩ : ByteArray)) := (blk_cell BK177.out 0).trans rfl; have hcz9_1 : w8.cell? ⟨gb177, 1, none⟩ = some (.string (⟨#[]⟩ : ByteArray)) := (blk_cell BK177.out 1).trans rfl; have hfz9_0 := blk_frozen BK177.out 0; have hfz9_1 := blk_frozen BK177.out 1) | ((with_reducible refine gate_callee (f := 138) rfl ?_); refine goesL_ (some 19) rfl rfl Tryz.func138 (by kernel_rfl) rfl #[.string ((rd_T144 l0 x12_1).f0)] rfl (by (try simp only [List.map_toArray, List.map_cons, List.map_nil]); first | done | rfl | (simp only [List.length_drop, List.length_take]; rfl)) ?_; (with_reducible refine (prefix_Split.calls k1 ((rd_T144 l0 x12_1).f0) t178 t179 t180 _ ?side1 A5.out).mono ?_); (case side1 => refine Glob.below HG.out ?_; repeat (first | (with_reducible first | exact HB.out | apply below_alloc | apply pw_below_drewN | apply below_drew1 | refine below_set ?_ GE177.out) | exact HB.out)); rintro e w10 ⟨rfl, hb⟩; refine ⟨_, rfl, ?_⟩; have n0_ := Aside0.mk (Kd.R_below (by (with_reducible repeat (first | apply Kd.R_alloc | apply Kd.R_drewN | apply Kd.R_drew)); exact (Kd.R_mono (Kd.R_far (p := ⟨gb177, 1, none⟩) (Kd.R_far (p := ⟨gb177, 0, none⟩) (Kd.R_mono HO_2.out (fun k_ hk => (⟨hk, hk.2⟩ : _ ∧ k_ ≠ gb177))) (fun _ hk => hk.2) (.string ((rd_T144 l0 x12_1).f0))) (fun _ hk => hk.2) (.string ((rd_T144 l0 x12_1).f1))) (fun _ h_ => h_.1))) hb); have n1_ := Aside0.mk (Kd.R_below (by (with_reducible repeat (first | apply Kd.R_alloc | apply Kd.R_drewN | apply Kd.R_drew)); exact (Kd.R_mono (Kd.R_far (p := ⟨gb177, 1, none⟩) (Kd.R_far (p := ⟨gb177, 0, none⟩) (Kd.R_mono HO_3.out (fun k_ hk => (⟨hk, hk.2⟩ : _ ∧ k_ ≠ gb177))) (fun _ hk => hk.2) (.string ((rd_T144 l0 x12_1).f0))) (fun _ hk => hk.2) (.string ((rd_T144 l0 x12_1).f1))) (fun _ h_ => h_.1))) hb); have n2_ := Aside0.mk (blk_below (g := gb177) (o := .cells #[.string ((rd_T144 l0 x12_1).f0), .string ((rd_T144 l0 x12_1).f1)] 144 (0, 0)) (by (with_reducible repeat (first | refine blk_drewN ?_ _ | refine blk_drew ?_ | refine blk_alloc ?_ _)); refine blk_put (cs := #[.string ((rd_T144 l0 x12_1).f0), .string (⟨#[]⟩ : ByteArray)]) ?_ 1 _ rfl; (with_reducible repeat (first | refine blk_drewN ?_ _ | refine blk_drew ?_ | refine blk_alloc ?_ _)); refine blk_put (cs := #[.string (⟨#[]⟩ : ByteArray), .string (⟨#[]⟩ : ByteArray)]) ?_ 0 _ rfl; (with_reducible repeat (first | refine blk_drewN ?_ _ | refine blk_drew ?_ | refine blk_alloc ?_ _)); exact BK177.out) hb); have n3_ := Aside0.mk (below_step (by repeat (first | (with_reducible first | exact HB.out | apply below_alloc | apply pw_below_drewN | apply below_drew1 | refine below_set ?_ GE177.out) | exact HB.out)) hb); clear HO_2; clear HO_3; clear BK177; clear HB; have HO_2 := n0_; have HO_3 := n1_; have BK177 := n2_; have HB := n3_; clear n0_ n1_ n2_ n3_; (try clear hb); (try clear hb2); (try clear hk); (try clear hi)))
        (try simp only [Act.put, List.setIfInBounds_toArray, List.set_cons_zero, List.set_cons_succ])
        go_cut [27] (fun v27 wc => ∃ (kq : Nat) (x27_6 : Bool), v27 = .bool x27_6 ∧ Aside0 (prefix_Declare.j1 kq x2_1 x3_1 t178 t179 l0 (l0.length : Int) x12_1 x27_6 ((rd_T144 l0 x12_1).f0) ((rd_T144 l0 x12_1).f1) = some (r1, r2, r3)) ∧ Aside0 (kq ≤ k1) ∧ Aside0 (Kd.R k144 144 wc w.heap.size (fun k_ => some k_ ≠ (u3 : Value).ownBlock ∧ k_ ≠ gb177) u2 x2_1) ∧ Aside0 (Kd.R k144 144 wc w.heap.size (fun k_ => some k_ ≠ (u2 : Value).ownBlock ∧ k_ ≠ gb177) u3 x3_1) ∧ Aside0 (wc.heap[gb177]? = some (.cells #[.string ((rd_T144 l0 x12_1).f0), .string ((rd_T144 l0 x12_1).f1)] 144 (0, 0))) ∧ Aside0 (Below w.heap.size w wc))
        case first =>
         have H := HC7.out
         clear HC7
         by_cases c11 : t178.toList = ([] : List UInt8)
         ·rw [if_pos c11] at H
          have c11b0 : (t178.toList == ([] : List UInt8)) = true := beq_iff_eq.mpr c11
          have c11b1 : (t178.toList != ([] : List UInt8)) = false := bne_eq_false_iff_eq.mpr c11
          have c11b2 : (t178.toList).isEmpty = true := List.isEmpty_iff.mpr c11
          have c11b3 : (!(t178.toList).isEmpty) = false := by rw [c11b2]; rfl
          clear c11
          (first | rw [c11b0] | (simp only [i64_w, i32_w]; rw [c11b0]) | skip)
          have H' := Aside0.mk H
          clear H
          go_wp2
          all_goals try (exact absurd (by assumption : (!(t178.toList).isEmpty) = true) (by rw [c11b2]; decide))
          go_meet
          case rel => exact ⟨_, ((t179.toList == ([120, 109, 108, 110, 115] : List UInt8))), (by first | rfl | (simp; done) | (simp [*]; done) | (simp [xx_ne_nil, xx_eq_nil]; done) | (simp [*, xx_ne_nil, xx_eq_nil]; done)), H', ⟨by have := HK1.out; first | omega | exact Nat.le_refl _⟩, ⟨by (with_reducible repeat (first | apply Kd.R_alloc | apply Kd.R_drewN | apply Kd.R_drew)); exact HO_2.out⟩, ⟨by (with_reducible repeat (first | apply Kd.R_alloc | apply Kd.R_drewN | apply Kd.R_drew)); exact HO_3.out⟩, ⟨by (with_reducible repeat (first | refine blk_drewN ?_ _ | refine blk_drew ?_ | refine blk_alloc ?_ _)); exact BK177.out⟩, ⟨by repeat (first | (with_reducible first | exact HB.out | apply below_alloc | apply pw_below_drewN | apply below_drew1 | refine below_set ?_ GE177.out) | exact HB.out)⟩⟩
         ·rw [if_neg c11] at H
          have c11b0 : (t178.toList == ([] : List UInt8)) = false := beq_eq_false_iff_ne.mpr c11
          have c11b1 : (t178.toList != ([] : List UInt8)) = true := bne_iff_ne.mpr c11
          have c11b2 : (t178.toList).isEmpty = false := List.isEmpty_eq_false_iff.mpr c11
          have c11b3 : (!(t178.toList).isEmpty) = true := by rw [c11b2]; rfl
          (first | rw [c11b0] | (simp only [i64_w, i32_w]; rw [c11b0]) | skip)
          have H' := Aside0.mk H
          clear H
          go_wp2
          all_goals try (exact absurd (by assumption : (!(t178.toList).isEmpty) = false) (by rw [c11b2]; decide))
          go_meet
          case rel => exact ⟨_, (false), (by first | rfl | (simp; done) | (simp [*]; done) | (simp [xx_ne_nil, xx_eq_nil]; done) | (simp [*, xx_ne_nil, xx_eq_nil]; done)), H', ⟨by have := HK1.out; first | omega | exact Nat.le_refl _⟩, ⟨by (with_reducible repeat (first | apply Kd.R_alloc | apply Kd.R_drewN | apply Kd.R_drew)); exact HO_2.out⟩, ⟨by (with_reducible repeat (first | apply Kd.R_alloc | apply Kd.R_drewN | apply Kd.R_drew)); exact HO_3.out⟩, ⟨by (with_reducible repeat (first | refine blk_drewN ?_ _ | refine blk_drew ?_ | refine blk_alloc ?_ _)); exact BK177.out⟩, ⟨by repeat (first | (with_reducible first | exact HB.out | apply below_alloc | apply pw_below_drewN | apply below_drew1 | refine below_set ?_ GE177.out) | exact HB.out)⟩⟩
        case rest =>
         clear HC7
         try clear c1
         try clear p1
         try clear q1
         try clear hx1
         try clear c2
         try clear c2b0
         try clear p2
         try clear c3
         try clear c3b0
         try clear c4
         try clear c4b0
         try clear c6
         try clear c6b0
         try clear c6b1
         try clear c10
         try clear c11
         try clear c11b0
         try clear c11b1
         try clear hcz9_0
         try clear hcz9_1
         try clear hfz9_0
         try clear hfz9_1
         try clear hx176_0
         try clear hx176_1
         try clear p176
         try clear q176
         obtain ⟨kq, x27_6, rfl, HA, HJ6, HO_2, HO_3, BK177, HB⟩ := hcut
         cases kq with
         | zero => exact absurd HA.out (by simp [prefix_Declare.j1])
         | succ kj6 =>
           have H := HA.out
           clear HA
           simp only [prefix_Declare.j1] at H
           by_cases c12 : x27_6 = true
           ·subst c12
            have H1 : ((prefix_may.f (⟨#[]⟩ : ByteArray) ((rd_T144 l0 x12_1).f1)).bind fun t181 => (if t181 = true then (if x2_1.length < 4398046511104 then (prefix_Declare.l0 kj6 (x2_1 ++ [(⟨(⟨#[]⟩ : ByteArray), ((rd_T144 l0 x12_1).f1)⟩ : S144)]) x3_1 l0 (l0.length : Int) (wrap64 (x12_1 + 1))) else (none)) else (some (([] : List (S144)), ([] : List (S144)), 80)))) = some (r1, r2, r3) := by rw [if_pos rfl] at H; exact H
            clear H
            have H := H1
            clear H1
            replace H := Option.bind_eq_some_iff.mp H
            obtain ⟨t181, A130, H⟩ := H
            replace H : (if t181 = true then (if x2_1.length < 4398046511104 then (prefix_Declare.l0 kj6 (x2_1 ++ [(⟨(⟨#[]⟩ : ByteArray), ((rd_T144 l0 x12_1).f1)⟩ : S144)]) x3_1 l0 (l0.length : Int) (wrap64 (x12_1 + 1))) else (none)) else (some (([] : List (S144)), ([] : List (S144)), 80))) = some (r1, r2, r3) := H
            have A13 := Aside0.mk A130
            clear A130
            by_cases c14 : t181 = true
            ·subst c14
             have H1 : (if x2_1.length < 4398046511104 then (prefix_Declare.l0 kj6 (x2_1 ++ [(⟨(⟨#[]⟩ : ByteArray), ((rd_T144 l0 x12_1).f1)⟩ : S144)]) x3_1 l0 (l0.length : Int) (wrap64 (x12_1 + 1))) else (none)) = some (r1, r2, r3) := by rw [if_pos rfl] at H; exact H
             clear H
             have H := H1
             clear H1
             by_cases c15 : x2_1.length < 4398046511104
             ·rw [if_pos c15] at H
              have LMc15 := Aside0.mk c15
              clear c15
              obtain ⟨y182, hy182⟩ : ∃ y_ : List (S144), y_ = (x2_1 ++ [(⟨(⟨#[]⟩ : ByteArray), ((rd_T144 l0 x12_1).f1)⟩ : S144)]) := ⟨_, rfl⟩
              replace H : (prefix_Declare.l0 kj6 y182 x3_1 l0 (l0.length : Int) (wrap64 (x12_1 + 1))) = some (r1, r2, r3) := by first | (rw [hy182]; with_reducible exact H) | (have H2_ := (Option.bind_some _ _).symm.trans H; rw [hy182]; with_reducible exact H2_) | (have H2_ := (Option.bind_some _ _).symm.trans H; with_reducible exact H2_) | with_reducible exact H | (rw [hy182]; exact H) | exact H
              have Ny182 := Aside0.mk hy182
              clear hy182
              have H' := Aside0.mk H
              clear H
              have hcz16_0 : wc.cell? ⟨gb177, 0, none⟩ = some (.string ((rd_T144 l0 x12_1).f0)) := (blk_cell BK177.out 0).trans rfl
              have hcz16_1 : wc.cell? ⟨gb177, 1, none⟩ = some (.string ((rd_T144 l0 x12_1).f1)) := (blk_cell BK177.out 1).trans rfl
              have hfz16_0 := blk_frozen BK177.out 0
              have hfz16_1 := blk_frozen BK177.out 1
              go_wp2_with (first | ((with_reducible refine gate_callee (f := 139) rfl ?_); refine goesL_ (some 44) rfl rfl Tryz.func139 (by kernel_rfl) rfl #[.string (⟨#[]⟩ : ByteArray), .string ((rd_T144 l0 x12_1).f1)] rfl (by (try simp only [List.map_toArray, List.map_cons, List.map_nil]); first | done | rfl | (simp only [List.length_drop, List.length_take]; rfl)) ?_; (with_reducible refine (prefix_may.calls (⟨#[]⟩ : ByteArray) ((rd_T144 l0 x12_1).f1) true _ A13.out).mono ?_); rintro e w' ⟨rfl, ⟨nd, rfl⟩⟩; refine ⟨_, rfl, ?_⟩) | ((with_reducible refine gate_builtin (b := .append) (xs := #[.tmp 46, .tmp 51]) rfl ?_); at_builtin; refine Kd.R_append k144 (w0 := w) w.heap.size rfl (.tmp 46) (.tmp 51) 58 144 (.agg #[(.string ⟨#[]⟩), (.string ⟨#[]⟩)]) 32 rfl Tryz.underlying58 info144 rfl (by decide) (by omega) u2 x2_1 (⟨(⟨#[]⟩ : ByteArray), ((rd_T144 l0 x12_1).f1)⟩ : S144) [.string (⟨#[]⟩ : ByteArray), .string ((rd_T144 l0 x12_1).f1)] (fun k_ => some k_ ≠ (u3 : Value).ownBlock ∧ k_ ≠ gb177) (fun _ => False) rfl rfl ?aP (fun _ hk => hk.elim) ?aF ?aO ?aB ?aS ?aL ?_; (case aP => exact k144_mkM _ _ _ (⟨(⟨#[]⟩ : ByteArray), ((rd_T144 l0 x12_1).f1)⟩ : S144)); (case aB => exact (by repeat (first | (with_reducible first | exact HB.out | apply below_alloc | apply pw_below_drewN | apply below_drew1 | refine below_set ?_ GE177.out) | exact HB.out))); (case aF => exact (fun k_ hk => ⟨Kd.fresh' (Kd.R_lt (by (with_reducible repeat (first | apply Kd.R_alloc | apply Kd.R_drewN | apply Kd.R_drew)); exact HO_3.out)) k_ hk, Kd.freshB (g := gb177) (o := .cells #[.string ((rd_T144 l0 x12_1).f0), .string ((rd_T144 l0 x12_1).f1)] 144 (0, 0)) (by (with_reducible repeat (first | refine blk_drewN ?_ _ | refine blk_drew ?_ | refine blk_alloc ?_ _)); exact BK177.out) k_ hk⟩)); (case aO => exact (by (with_reducible repeat (first | apply Kd.R_alloc | apply Kd.R_drewN | apply Kd.R_drew)); exact HO_2.out)); (case aS => exact (below_size (by repeat (first | (with_reducible first | exact HB.out | apply below_alloc | apply pw_below_drewN | apply below_drew1 | refine below_set ?_ GE177.out) | exact HB.out)))); (case aL => have := LMc15.out; omega); intro v183 w17 ho hb hg hat; rw [← Ny182.out] at ho; have n0_ := Aside0.mk (Kd.R_after (ok := (fun k_ => k_ ≠ gb177)) (by (with_reducible repeat (first | apply Kd.R_alloc | apply Kd.R_drewN | apply Kd.R_drew)); exact Kd.R_mono HO_3.out (fun _ hk => ⟨hk.2, hk.1⟩)) hg hat); have n1_ := Aside0.mk (blk_grown (g := gb177) (o := .cells #[.string ((rd_T144 l0 x12_1).f0), .string ((rd_T144 l0 x12_1).f1)] 144 (0, 0)) (by (with_reducible repeat (first | refine blk_drewN ?_ _ | refine blk_drew ?_ | refine blk_alloc ?_ _)); exact BK177.out) hg (Kd.R_away HO_2.out (fun _ hk => hk.2))); have n2_ := Aside0.mk (hb); have n3_ := Aside0.mk (ho); clear HO_3; clear BK177; clear HB; clear HO_2; have HO_3 := n0_; have BK177 := n1_; have HB := n2_; have HO184 := n3_; clear n0_ n1_ n2_ n3_; clear ho hb hg hat))
              go_roundg kj6
              case measure => have := HK1.out; have := HJ6.out; omega
              case rel => exact ⟨(y182), (x3_1), (wrap64 (x12_1 + 1)), (by first | rfl | (simp; done) | (simp [*]; done) | (simp [xx_ne_nil, xx_eq_nil]; done) | (simp [*, xx_ne_nil, xx_eq_nil]; done)), H', ⟨by have := HK1.out; have := HJ6.out; omega⟩, ⟨by (with_reducible repeat (first | apply Kd.R_alloc | apply Kd.R_drewN | apply Kd.R_drew)); exact Kd.R_mono HO184.out (fun _ hk => hk.1)⟩, ⟨by (with_reducible repeat (first | apply Kd.R_alloc | apply Kd.R_drewN | apply Kd.R_drew)); exact Kd.R_mono HO_3.out (fun _ hk => hk.2)⟩, ⟨by repeat (first | (with_reducible first | exact HB.out | apply below_alloc | apply pw_below_drewN | apply below_drew1 | refine below_set ?_ GE177.out) | exact HB.out)⟩⟩
             ·rw [if_neg c15] at H
              exact absurd H (by simp)
            ·replace c14 := Bool.eq_false_iff.mpr c14
             subst c14
             have H1 : (some (([] : List (S144)), ([] : List (S144)), 80)) = some (r1, r2, r3) := by rw [if_neg (show ¬ (false = true) by decide)] at H; exact H
             clear H
             have H := H1
             clear H1
             simp only [Option.some.injEq, Prod.mk.injEq] at H
             obtain ⟨rfl, rfl, rfl⟩ := H
             have hcz18_0 : wc.cell? ⟨gb177, 0, none⟩ = some (.string ((rd_T144 l0 x12_1).f0)) := (blk_cell BK177.out 0).trans rfl
             have hcz18_1 : wc.cell? ⟨gb177, 1, none⟩ = some (.string ((rd_T144 l0 x12_1).f1)) := (blk_cell BK177.out 1).trans rfl
             have hfz18_0 := blk_frozen BK177.out 0
             have hfz18_1 := blk_frozen BK177.out 1
             go_wp2_with (first | ((with_reducible refine gate_callee (f := 139) rfl ?_); refine goesL_ (some 44) rfl rfl Tryz.func139 (by kernel_rfl) rfl #[.string (⟨#[]⟩ : ByteArray), .string ((rd_T144 l0 x12_1).f1)] rfl (by (try simp only [List.map_toArray, List.map_cons, List.map_nil]); first | done | rfl | (simp only [List.length_drop, List.length_take]; rfl)) ?_; (with_reducible refine (prefix_may.calls (⟨#[]⟩ : ByteArray) ((rd_T144 l0 x12_1).f1) false _ A13.out).mono ?_); rintro e w' ⟨rfl, ⟨nd, rfl⟩⟩; refine ⟨_, rfl, ?_⟩))
             go_ret3
             exact ⟨_, _, by first | rfl | (simp [errW_none, errW_some] <;> rfl) | (simp [*, errW_none, errW_some] <;> rfl), by first | exact Kd.R_nil _ _ _ _ _ | exact Kd.N_nil _ _ _ _ _ | exact Kd.V_nil _ _ _ _ _ | exact Kd.Q_nil _ _ _ _ _ | exact Kd.S_nil _ _ _ _ _, by first | exact Kd.R_nil _ _ _ _ _ | exact Kd.N_nil _ _ _ _ _ | exact Kd.V_nil _ _ _ _ _ | exact Kd.Q_nil _ _ _ _ _ | exact Kd.S_nil _ _ _ _ _, by repeat (first | (with_reducible first | exact HB.out | apply below_alloc | apply pw_below_drewN | apply below_drew1 | refine below_set ?_ GE177.out) | exact HB.out)⟩
           ·replace c12 := Bool.eq_false_iff.mpr c12
            subst c12
            have H1 : (if t178.toList = ([120, 109, 108, 110, 115] : List UInt8) then ((prefix_may.f t179 ((rd_T144 l0 x12_1).f1)).bind fun t185 => (if t185 = true then (if x2_1.length < 4398046511104 then (prefix_Declare.l0 kj6 (x2_1 ++ [(⟨t179, ((rd_T144 l0 x12_1).f1)⟩ : S144)]) x3_1 l0 (l0.length : Int) (wrap64 (x12_1 + 1))) else (none)) else (some (([] : List (S144)), ([] : List (S144)), 80)))) else (if x3_1.length < 4398046511104 then (prefix_Declare.l0 kj6 x2_1 (x3_1 ++ [(⟨((rd_T144 l0 x12_1).f0), ((rd_T144 l0 x12_1).f1)⟩ : S144)]) l0 (l0.length : Int) (wrap64 (x12_1 + 1))) else (none))) = some (r1, r2, r3) := by rw [if_neg (show ¬ (false = true) by decide)] at H; exact H
            clear H
            have H := H1
            clear H1
            by_cases c19 : t178.toList = ([120, 109, 108, 110, 115] : List UInt8)
            ·rw [if_pos c19] at H
             have c19b0 : (t178.toList == ([120, 109, 108, 110, 115] : List UInt8)) = true := beq_iff_eq.mpr c19
             have c19b1 : (t178.toList != ([120, 109, 108, 110, 115] : List UInt8)) = false := bne_eq_false_iff_eq.mpr c19
             clear c19
             replace H := Option.bind_eq_some_iff.mp H
             obtain ⟨t185, A200, H⟩ := H
             replace H : (if t185 = true then (if x2_1.length < 4398046511104 then (prefix_Declare.l0 kj6 (x2_1 ++ [(⟨t179, ((rd_T144 l0 x12_1).f1)⟩ : S144)]) x3_1 l0 (l0.length : Int) (wrap64 (x12_1 + 1))) else (none)) else (some (([] : List (S144)), ([] : List (S144)), 80))) = some (r1, r2, r3) := H
             have A20 := Aside0.mk A200
             clear A200
             by_cases c21 : t185 = true
             ·subst c21
              have H1 : (if x2_1.length < 4398046511104 then (prefix_Declare.l0 kj6 (x2_1 ++ [(⟨t179, ((rd_T144 l0 x12_1).f1)⟩ : S144)]) x3_1 l0 (l0.length : Int) (wrap64 (x12_1 + 1))) else (none)) = some (r1, r2, r3) := by rw [if_pos rfl] at H; exact H
              clear H
              have H := H1
              clear H1
              by_cases c22 : x2_1.length < 4398046511104
              ·rw [if_pos c22] at H
               have LMc22 := Aside0.mk c22
               clear c22
               obtain ⟨y186, hy186⟩ : ∃ y_ : List (S144), y_ = (x2_1 ++ [(⟨t179, ((rd_T144 l0 x12_1).f1)⟩ : S144)]) := ⟨_, rfl⟩
               replace H : (prefix_Declare.l0 kj6 y186 x3_1 l0 (l0.length : Int) (wrap64 (x12_1 + 1))) = some (r1, r2, r3) := by first | (rw [hy186]; with_reducible exact H) | (have H2_ := (Option.bind_some _ _).symm.trans H; rw [hy186]; with_reducible exact H2_) | (have H2_ := (Option.bind_some _ _).symm.trans H; with_reducible exact H2_) | with_reducible exact H | (rw [hy186]; exact H) | exact H
               have Ny186 := Aside0.mk hy186
               clear hy186
               have H' := Aside0.mk H
               clear H
               have hcz23_0 : wc.cell? ⟨gb177, 0, none⟩ = some (.string ((rd_T144 l0 x12_1).f0)) := (blk_cell BK177.out 0).trans rfl
               have hcz23_1 : wc.cell? ⟨gb177, 1, none⟩ = some (.string ((rd_T144 l0 x12_1).f1)) := (blk_cell BK177.out 1).trans rfl
               have hfz23_0 := blk_frozen BK177.out 0
               have hfz23_1 := blk_frozen BK177.out 1
               go_wp2_with (first | ((with_reducible refine gate_callee (f := 139) rfl ?_); refine goesL_ (some 44) rfl rfl Tryz.func139 (by kernel_rfl) rfl #[.string t179, .string ((rd_T144 l0 x12_1).f1)] rfl (by (try simp only [List.map_toArray, List.map_cons, List.map_nil]); first | done | rfl | (simp only [List.length_drop, List.length_take]; rfl)) ?_; (with_reducible refine (prefix_may.calls t179 ((rd_T144 l0 x12_1).f1) true _ A20.out).mono ?_); rintro e w' ⟨rfl, ⟨nd, rfl⟩⟩; refine ⟨_, rfl, ?_⟩) | ((with_reducible refine gate_builtin (b := .append) (xs := #[.tmp 46, .tmp 51]) rfl ?_); at_builtin; refine Kd.R_append k144 (w0 := w) w.heap.size rfl (.tmp 46) (.tmp 51) 58 144 (.agg #[(.string ⟨#[]⟩), (.string ⟨#[]⟩)]) 32 rfl Tryz.underlying58 info144 rfl (by decide) (by omega) u2 x2_1 (⟨t179, ((rd_T144 l0 x12_1).f1)⟩ : S144) [.string t179, .string ((rd_T144 l0 x12_1).f1)] (fun k_ => some k_ ≠ (u3 : Value).ownBlock ∧ k_ ≠ gb177) (fun _ => False) rfl rfl ?aP (fun _ hk => hk.elim) ?aF ?aO ?aB ?aS ?aL ?_; (case aP => exact k144_mkM _ _ _ (⟨t179, ((rd_T144 l0 x12_1).f1)⟩ : S144)); (case aB => exact (by repeat (first | (with_reducible first | exact HB.out | apply below_alloc | apply pw_below_drewN | apply below_drew1 | refine below_set ?_ GE177.out) | exact HB.out))); (case aF => exact (fun k_ hk => ⟨Kd.fresh' (Kd.R_lt (by (with_reducible repeat (first | apply Kd.R_alloc | apply Kd.R_drewN | apply Kd.R_drew)); exact HO_3.out)) k_ hk, Kd.freshB (g := gb177) (o := .cells #[.string ((rd_T144 l0 x12_1).f0), .string ((rd_T144 l0 x12_1).f1)] 144 (0, 0)) (by (with_reducible repeat (first | refine blk_drewN ?_ _ | refine blk_drew ?_ | refine blk_alloc ?_ _)); exact BK177.out) k_ hk⟩)); (case aO => exact (by (with_reducible repeat (first | apply Kd.R_alloc | apply Kd.R_drewN | apply Kd.R_drew)); exact HO_2.out)); (case aS => exact (below_size (by repeat (first | (with_reducible first | exact HB.out | apply below_alloc | apply pw_below_drewN | apply below_drew1 | refine below_set ?_ GE177.out) | exact HB.out)))); (case aL => have := LMc22.out; omega); intro v187 w24 ho hb hg hat; rw [← Ny186.out] at ho; have n0_ := Aside0.mk (Kd.R_after (ok := (fun k_ => k_ ≠ gb177)) (by (with_reducible repeat (first | apply Kd.R_alloc | apply Kd.R_drewN | apply Kd.R_drew)); exact Kd.R_mono HO_3.out (fun _ hk => ⟨hk.2, hk.1⟩)) hg hat); have n1_ := Aside0.mk (blk_grown (g := gb177) (o := .cells #[.string ((rd_T144 l0 x12_1).f0), .string ((rd_T144 l0 x12_1).f1)] 144 (0, 0)) (by (with_reducible repeat (first | refine blk_drewN ?_ _ | refine blk_drew ?_ | refine blk_alloc ?_ _)); exact BK177.out) hg (Kd.R_away HO_2.out (fun _ hk => hk.2))); have n2_ := Aside0.mk (hb); have n3_ := Aside0.mk (ho); clear HO_3; clear BK177; clear HB; clear HO_2; have HO_3 := n0_; have BK177 := n1_; have HB := n2_; have HO188 := n3_; clear n0_ n1_ n2_ n3_; clear ho hb hg hat))
               go_roundg kj6
               case measure => have := HK1.out; have := HJ6.out; omega
               case rel => exact ⟨(y186), (x3_1), (wrap64 (x12_1 + 1)), (by first | rfl | (simp; done) | (simp [*]; done) | (simp [xx_ne_nil, xx_eq_nil]; done) | (simp [*, xx_ne_nil, xx_eq_nil]; done)), H', ⟨by have := HK1.out; have := HJ6.out; omega⟩, ⟨by (with_reducible repeat (first | apply Kd.R_alloc | apply Kd.R_drewN | apply Kd.R_drew)); exact Kd.R_mono HO188.out (fun _ hk => hk.1)⟩, ⟨by (with_reducible repeat (first | apply Kd.R_alloc | apply Kd.R_drewN | apply Kd.R_drew)); exact Kd.R_mono HO_3.out (fun _ hk => hk.2)⟩, ⟨by repeat (first | (with_reducible first | exact HB.out | apply below_alloc | apply pw_below_drewN | apply below_drew1 | refine below_set ?_ GE177.out) | exact HB.out)⟩⟩
              ·rw [if_neg c22] at H
               exact absurd H (by simp)
             ·replace c21 := Bool.eq_false_iff.mpr c21
              subst c21
              have H1 : (some (([] : List (S144)), ([] : List (S144)), 80)) = some (r1, r2, r3) := by rw [if_neg (show ¬ (false = true) by decide)] at H; exact H
              clear H
              have H := H1
              clear H1
              simp only [Option.some.injEq, Prod.mk.injEq] at H
              obtain ⟨rfl, rfl, rfl⟩ := H
              have hcz25_0 : wc.cell? ⟨gb177, 0, none⟩ = some (.string ((rd_T144 l0 x12_1).f0)) := (blk_cell BK177.out 0).trans rfl
              have hcz25_1 : wc.cell? ⟨gb177, 1, none⟩ = some (.string ((rd_T144 l0 x12_1).f1)) := (blk_cell BK177.out 1).trans rfl
              have hfz25_0 := blk_frozen BK177.out 0
              have hfz25_1 := blk_frozen BK177.out 1
              go_wp2_with (first | ((with_reducible refine gate_callee (f := 139) rfl ?_); refine goesL_ (some 44) rfl rfl Tryz.func139 (by kernel_rfl) rfl #[.string t179, .string ((rd_T144 l0 x12_1).f1)] rfl (by (try simp only [List.map_toArray, List.map_cons, List.map_nil]); first | done | rfl | (simp only [List.length_drop, List.length_take]; rfl)) ?_; (with_reducible refine (prefix_may.calls t179 ((rd_T144 l0 x12_1).f1) false _ A20.out).mono ?_); rintro e w' ⟨rfl, ⟨nd, rfl⟩⟩; refine ⟨_, rfl, ?_⟩))
              go_ret3
              exact ⟨_, _, by first | rfl | (simp [errW_none, errW_some] <;> rfl) | (simp [*, errW_none, errW_some] <;> rfl), by first | exact Kd.R_nil _ _ _ _ _ | exact Kd.N_nil _ _ _ _ _ | exact Kd.V_nil _ _ _ _ _ | exact Kd.Q_nil _ _ _ _ _ | exact Kd.S_nil _ _ _ _ _, by first | exact Kd.R_nil _ _ _ _ _ | exact Kd.N_nil _ _ _ _ _ | exact Kd.V_nil _ _ _ _ _ | exact Kd.Q_nil _ _ _ _ _ | exact Kd.S_nil _ _ _ _ _, by repeat (first | (with_reducible first | exact HB.out | apply below_alloc | apply pw_below_drewN | apply below_drew1 | refine below_set ?_ GE177.out) | exact HB.out)⟩
            ·rw [if_neg c19] at H
             have c19b0 : (t178.toList == ([120, 109, 108, 110, 115] : List UInt8)) = false := beq_eq_false_iff_ne.mpr c19
             have c19b1 : (t178.toList != ([120, 109, 108, 110, 115] : List UInt8)) = true := bne_iff_ne.mpr c19
             by_cases c26 : x3_1.length < 4398046511104
             ·rw [if_pos c26] at H
              have LMc26 := Aside0.mk c26
              clear c26
              obtain ⟨y189, hy189⟩ : ∃ y_ : List (S144), y_ = (x3_1 ++ [(⟨((rd_T144 l0 x12_1).f0), ((rd_T144 l0 x12_1).f1)⟩ : S144)]) := ⟨_, rfl⟩
              replace H : (prefix_Declare.l0 kj6 x2_1 y189 l0 (l0.length : Int) (wrap64 (x12_1 + 1))) = some (r1, r2, r3) := by first | (rw [hy189]; with_reducible exact H) | (have H2_ := (Option.bind_some _ _).symm.trans H; rw [hy189]; with_reducible exact H2_) | (have H2_ := (Option.bind_some _ _).symm.trans H; with_reducible exact H2_) | with_reducible exact H | (rw [hy189]; exact H) | exact H
              have Ny189 := Aside0.mk hy189
              clear hy189
              have H' := Aside0.mk H
              clear H
              have hcz27_0 : wc.cell? ⟨gb177, 0, none⟩ = some (.string ((rd_T144 l0 x12_1).f0)) := (blk_cell BK177.out 0).trans rfl
              have hcz27_1 : wc.cell? ⟨gb177, 1, none⟩ = some (.string ((rd_T144 l0 x12_1).f1)) := (blk_cell BK177.out 1).trans rfl
              have hfz27_0 := blk_frozen BK177.out 0
              have hfz27_1 := blk_frozen BK177.out 1
              go_wp2_with (first | ((with_reducible refine gate_builtin (b := .append) (xs := #[.tmp 37, .tmp 39]) rfl ?_); at_builtin; refine Kd.R_append k144 (w0 := w) w.heap.size rfl (.tmp 37) (.tmp 39) 58 144 (.agg #[(.string ⟨#[]⟩), (.string ⟨#[]⟩)]) 32 rfl Tryz.underlying58 info144 rfl (by decide) (by omega) u3 x3_1 (⟨((rd_T144 l0 x12_1).f0), ((rd_T144 l0 x12_1).f1)⟩ : S144) [.string ((rd_T144 l0 x12_1).f0), .string ((rd_T144 l0 x12_1).f1)] (fun k_ => some k_ ≠ (u2 : Value).ownBlock ∧ k_ ≠ gb177) (fun _ => False) rfl rfl ?aP (fun _ hk => hk.elim) ?aF ?aO ?aB ?aS ?aL ?_; (case aP => exact k144_mkM _ _ _ (⟨((rd_T144 l0 x12_1).f0), ((rd_T144 l0 x12_1).f1)⟩ : S144)); (case aB => exact (by repeat (first | (with_reducible first | exact HB.out | apply below_alloc | apply pw_below_drewN | apply below_drew1 | refine below_set ?_ GE177.out) | exact HB.out))); (case aF => exact (fun k_ hk => ⟨Kd.fresh' (Kd.R_lt (by (with_reducible repeat (first | apply Kd.R_alloc | apply Kd.R_drewN | apply Kd.R_drew)); exact HO_2.out)) k_ hk, Kd.freshB (g := gb177) (o := .cells #[.string ((rd_T144 l0 x12_1).f0), .string ((rd_T144 l0 x12_1).f1)] 144 (0, 0)) (by (with_reducible repeat (first | refine blk_drewN ?_ _ | refine blk_drew ?_ | refine blk_alloc ?_ _)); exact BK177.out) k_ hk⟩)); (case aO => exact (by (with_reducible repeat (first | apply Kd.R_alloc | apply Kd.R_drewN | apply Kd.R_drew)); exact HO_3.out)); (case aS => exact (below_size (by repeat (first | (with_reducible first | exact HB.out | apply below_alloc | apply pw_below_drewN | apply below_drew1 | refine below_set ?_ GE177.out) | exact HB.out)))); (case aL => have := LMc26.out; omega); intro v190 w28 ho hb hg hat; rw [← Ny189.out] at ho; have n0_ := Aside0.mk (Kd.R_after (ok := (fun k_ => k_ ≠ gb177)) (by (with_reducible repeat (first | apply Kd.R_alloc | apply Kd.R_drewN | apply Kd.R_drew)); exact Kd.R_mono HO_2.out (fun _ hk => ⟨hk.2, hk.1⟩)) hg hat); have n1_ := Aside0.mk (blk_grown (g := gb177) (o := .cells #[.string ((rd_T144 l0 x12_1).f0), .string ((rd_T144 l0 x12_1).f1)] 144 (0, 0)) (by (with_reducible repeat (first | refine blk_drewN ?_ _ | refine blk_drew ?_ | refine blk_alloc ?_ _)); exact BK177.out) hg (Kd.R_away HO_3.out (fun _ hk => hk.2))); have n2_ := Aside0.mk (hb); have n3_ := Aside0.mk (ho); clear HO_2; clear BK177; clear HB; clear HO_3; have HO_2 := n0_; have BK177 := n1_; have HB := n2_; have HO191 := n3_; clear n0_ n1_ n2_ n3_; clear ho hb hg hat))
              go_roundg kj6
              case measure => have := HK1.out; have := HJ6.out; omega
              case rel => exact ⟨(x2_1), (y189), (wrap64 (x12_1 + 1)), (by first | rfl | (simp; done) | (simp [*]; done) | (simp [xx_ne_nil, xx_eq_nil]; done) | (simp [*, xx_ne_nil, xx_eq_nil]; done)), H', ⟨by have := HK1.out; have := HJ6.out; omega⟩, ⟨by (with_reducible repeat (first | apply Kd.R_alloc | apply Kd.R_drewN | apply Kd.R_drew)); exact Kd.R_mono HO_2.out (fun _ hk => hk.2)⟩, ⟨by (with_reducible repeat (first | apply Kd.R_alloc | apply Kd.R_drewN | apply Kd.R_drew)); exact Kd.R_mono HO191.out (fun _ hk => hk.1)⟩, ⟨by repeat (first | (with_reducible first | exact HB.out | apply below_alloc | apply pw_below_drewN | apply below_drew1 | refine below_set ?_ GE177.out) | exact HB.out)⟩⟩
             ·rw [if_neg c26] at H
              exact absurd H (by simp)
       ·rw [if_neg c6] at H
        have c6b0 : (t180 == 0) = false := beq_eq_false_iff_ne.mpr c6
        have c6b1 : (t180 != 0) = true := bne_iff_ne.mpr c6
        simp only [Option.some.injEq, Prod.mk.injEq] at H
        obtain ⟨rfl, rfl, rfl⟩ := H
        have p176 : 0 ≤ (x12_1 : Int) := of_decide_eq_true (by first | (with_reducible assumption) | assumption)
        have q176 : x12_1 < (l0.length : Int) := of_decide_eq_true (by first | (with_reducible assumption) | assumption)
        obtain ⟨ad176, e176, hx176_0, hx176_1⟩ := at_T144 HR0.out x12_1 p176 q176
        cases e176
        replace hx176_0 := (HB.out.cell (World.block_lt_of_cell? w _ hx176_0)).trans hx176_0
        replace hx176_1 := (HB.out.cell (World.block_lt_of_cell? w _ hx176_1)).trans hx176_1
        replace p176 := eq_true p176
        replace q176 := eq_true q176
        go_wp2_with (first | ((with_reducible refine gate_dst (N := 6) rfl ?_); refine box_event ?hg (N := 6) ?hd (cs := #[.string (⟨#[]⟩ : ByteArray), .string (⟨#[]⟩ : ByteArray)]) (t := 144) ?hr ?_; (case hd => rfl); (case hg => rfl); (case hr => first | (go_simp; done) | (go_simp; rfl)); intro gb177 hg w29 hbox hb; have n0_ := Aside0.mk (Kd.R_below (Kd.R_elderB (by (with_reducible repeat (first | apply Kd.R_alloc | apply Kd.R_drewN | apply Kd.R_drew)); exact HO_2.out) gb177 (Nat.le_of_eq hg.symm)) hb); have n1_ := Aside0.mk (Kd.R_below (Kd.R_elderB (by (with_reducible repeat (first | apply Kd.R_alloc | apply Kd.R_drewN | apply Kd.R_drew)); exact HO_3.out) gb177 (Nat.le_of_eq hg.symm)) hb); have n2_ := Aside0.mk (below_step (by repeat (first | (with_reducible first | exact HB.out | apply below_alloc | apply pw_below_drewN | apply below_drew1) | exact HB.out)) hb); have n3_ := Aside0.mk (hbox); have n4_ := Aside0.mk ((by rw [hg]; exact (below_size (by repeat (first | (with_reducible first | exact HB.out | apply below_alloc | apply pw_below_drewN | apply below_drew1) | exact HB.out))) : w.heap.size ≤ gb177)); have n5_ := Aside0.mk ((by rw [hg]; exact (below_size (by repeat (first | (with_reducible first | exact HB.out | apply below_alloc | apply pw_below_drewN | apply below_drew1) | exact HB.out))) : w.heap.size ≤ gb177)); clear HO_2; clear HO_3; clear HB; have HO_2 := n0_; have HO_3 := n1_; have HB := n2_; have BK177 := n3_; have GW177 := n4_; have GE177 := n5_; clear n0_ n1_ n2_ n3_ n4_ n5_; clear hb hbox hg; have hcz30_0 : w29.cell? ⟨gb177, 0, none⟩ = some (.string (⟨#[]⟩ : ByteArray)) := (blk_cell BK177.out 0).trans rfl; have hcz30_1 : w29.cell? ⟨gb177, 1, none⟩ = some (.string (⟨#[]⟩ : ByteArray)) := (blk_cell BK177.out 1).trans rfl; have hfz30_0 := blk_frozen BK177.out 0; have hfz30_1 := blk_frozen BK177.out 1) | ((with_reducible refine gate_callee (f := 138) rfl ?_); refine goesL_ (some 19) rfl rfl Tryz.func138 (by kernel_rfl) rfl #[.string ((rd_T144 l0 x12_1).f0)] rfl (by (try simp only [List.map_toArray, List.map_cons, List.map_nil]); first | done | rfl | (simp only [List.length_drop, List.length_take]; rfl)) ?_; (with_reducible refine (prefix_Split.calls k1 ((rd_T144 l0 x12_1).f0) t178 t179 t180 _ ?side1 A5.out).mono ?_); (case side1 => refine Glob.below HG.out ?_; repeat (first | (with_reducible first | exact HB.out | apply below_alloc | apply pw_below_drewN | apply below_drew1 | refine below_set ?_ GE177.out) | exact HB.out)); rintro e w31 ⟨rfl, hb⟩; refine ⟨_, rfl, ?_⟩; have n0_ := Aside0.mk (Kd.R_below (by (with_reducible repeat (first | apply Kd.R_alloc | apply Kd.R_drewN | apply Kd.R_drew)); exact (Kd.R_mono (Kd.R_far (p := ⟨gb177, 1, none⟩) (Kd.R_far (p := ⟨gb177, 0, none⟩) (Kd.R_mono HO_2.out (fun k_ hk => (⟨hk, hk.2⟩ : _ ∧ k_ ≠ gb177))) (fun _ hk => hk.2) (.string ((rd_T144 l0 x12_1).f0))) (fun _ hk => hk.2) (.string ((rd_T144 l0 x12_1).f1))) (fun _ h_ => h_.1))) hb); have n1_ := Aside0.mk (Kd.R_below (by (with_reducible repeat (first | apply Kd.R_alloc | apply Kd.R_drewN | apply Kd.R_drew)); exact (Kd.R_mono (Kd.R_far (p := ⟨gb177, 1, none⟩) (Kd.R_far (p := ⟨gb177, 0, none⟩) (Kd.R_mono HO_3.out (fun k_ hk => (⟨hk, hk.2⟩ : _ ∧ k_ ≠ gb177))) (fun _ hk => hk.2) (.string ((rd_T144 l0 x12_1).f0))) (fun _ hk => hk.2) (.string ((rd_T144 l0 x12_1).f1))) (fun _ h_ => h_.1))) hb); have n2_ := Aside0.mk (blk_below (g := gb177) (o := .cells #[.string ((rd_T144 l0 x12_1).f0), .string ((rd_T144 l0 x12_1).f1)] 144 (0, 0)) (by (with_reducible repeat (first | refine blk_drewN ?_ _ | refine blk_drew ?_ | refine blk_alloc ?_ _)); refine blk_put (cs := #[.string ((rd_T144 l0 x12_1).f0), .string (⟨#[]⟩ : ByteArray)]) ?_ 1 _ rfl; (with_reducible repeat (first | refine blk_drewN ?_ _ | refine blk_drew ?_ | refine blk_alloc ?_ _)); refine blk_put (cs := #[.string (⟨#[]⟩ : ByteArray), .string (⟨#[]⟩ : ByteArray)]) ?_ 0 _ rfl; (with_reducible repeat (first | refine blk_drewN ?_ _ | refine blk_drew ?_ | refine blk_alloc ?_ _)); exact BK177.out) hb); have n3_ := Aside0.mk (below_step (by repeat (first | (with_reducible first | exact HB.out | apply below_alloc | apply pw_below_drewN | apply below_drew1 | refine below_set ?_ GE177.out) | exact HB.out)) hb); clear HO_2; clear HO_3; clear BK177; clear HB; have HO_2 := n0_; have HO_3 := n1_; have BK177 := n2_; have HB := n3_; clear n0_ n1_ n2_ n3_; (try clear hb); (try clear hb2); (try clear hk); (try clear hi)))
        go_ret3
        exact ⟨_, _, by first | rfl | (simp [errW_none, errW_some] <;> rfl) | (simp [*, errW_none, errW_some] <;> rfl), by first | exact Kd.R_nil _ _ _ _ _ | exact Kd.N_nil _ _ _ _ _ | exact Kd.V_nil _ _ _ _ _ | exact Kd.Q_nil _ _ _ _ _ | exact Kd.S_nil _ _ _ _ _, by first | exact Kd.R_nil _ _ _ _ _ | exact Kd.N_nil _ _ _ _ _ | exact Kd.V_nil _ _ _ _ _ | exact Kd.Q_nil _ _ _ _ _ | exact Kd.S_nil _ _ _ _ _, by repeat (first | (with_reducible first | exact HB.out | apply below_alloc | apply pw_below_drewN | apply below_drew1 | refine below_set ?_ GE177.out) | exact HB.out)⟩
      ·rw [if_neg c4] at H
       exact absurd H (by simp)
     ·rw [if_neg c3] at H
      exact absurd H (by simp)
    ·rw [if_neg c2] at H
     have c2b0 : decide (x12_1 < (l0.length : Int)) = false := decide_eq_false c2
     clear c2
     simp only [Option.some.injEq, Prod.mk.injEq] at H
     obtain ⟨rfl, rfl, rfl⟩ := H
     go_wp2
     go_ret3
     exact ⟨_, _, by first | rfl | (simp [errW_none, errW_some] <;> rfl) | (simp [*, errW_none, errW_some] <;> rfl), by (with_reducible repeat (first | apply Kd.R_alloc | apply Kd.R_drewN | apply Kd.R_drew)); exact HO_2.out, by (with_reducible repeat (first | apply Kd.R_alloc | apply Kd.R_drewN | apply Kd.R_drew)); exact HO_3.out, by repeat (first | (with_reducible first | exact HB.out | apply below_alloc | apply pw_below_drewN | apply below_drew1) | exact HB.out)⟩
end Go.Proofs.YtadgeghipimfiaaGreatDoor.Pg
end
section
namespace Go.Proofs.YtadgeghipimfiaaGreatDoor.V
set_option linter.unusedSimpArgs false
open Go.RowKit Go.Lib Go.Proofs.YtadgeghipimfiaaGreatDoorW.PrintWords Go.Proofs.YtadgeghipimfiaaGreatDoor.X Go.Proofs.YtadgeghipimfiaaGreatDoor.Pg Go.Proofs.YtadgeghipimfiaaGreatDoor.U
abbrev R3 := ByteArray × ByteArray × Int
def bad80 : R3 := ((⟨#[]⟩ : ByteArray), (⟨#[]⟩ : ByteArray), 80)
def splitV (l : Bs) : R3 :=
 if postC l = [] then (if plainB l = true then ((⟨#[]⟩ : ByteArray), B l, 0) else bad80)
 else if plainB (preC l) = true then (if plainB (postC l).tail = true then (B (preC l), B (postC l).tail, 0) else bad80) else bad80
theorem pre_len (l : Bs) : (preC l).length + (postC l).length = l.length := by rw [← List.length_append, pre_post]
theorem gsplit_ev (l : Bs) (hl : l.length < 4294967281) : Ev (fun k => prefix_Split.f k (B l)) (splitV l) := by
 have hlen := pre_len l
 have hcut : strings_Cut.f (B l) (⟨#[58]⟩ : ByteArray) = some (if postC l = [] then (B l, B [], false) else (B (preC l), B (postC l).tail, true)) := by
  unfold strings_Cut.f
  rw [B_size, if_pos hl, B_data, show (⟨#[58]⟩ : ByteArray).data.toList = [58] from rfl, cut58]
  by_cases h : postC l = []
  ·rw [if_pos h, if_pos h]; rfl
  ·rw [if_neg h, if_neg h]; rfl
 unfold prefix_Split.f splitV
 rw [hcut]
 by_cases h : postC l = []
 ·simp only [if_pos h, Option.bind_some, Bool.false_eq_true, if_false]
  refine Ev.bind (gplain_ev l (by omega)) ?_
  refine Ev.step (fun k => (show prefix_Split.j0 (k + 1) (B l) (B l) (B []) false (plainB l) = _ from by rw [prefix_Split.j0])) ?_
  by_cases hp : plainB l = true
  ·simp only [if_pos hp]; exact Ev.now _
  ·simp only [if_neg hp, Bool.false_eq_true, if_false]; exact Ev.now _
 ·simp only [if_neg h, Option.bind_some, if_true]
  refine Ev.step (fun k => (show prefix_Split.j0 (k + 1) (B l) (B (preC l)) (B (postC l).tail) true false = _ from by rw [prefix_Split.j0])) ?_
  simp only [Bool.false_eq_true, if_false, if_true]
  refine Ev.bind (gplain_ev _ (by omega)) ?_
  by_cases hp : plainB (preC l) = true
  ·simp only [if_pos hp]
   refine Ev.bind (gplain_ev _ (by rw [List.length_tail]; omega)) ?_
   by_cases hq : plainB (postC l).tail = true
   ·simp only [if_pos hq]; exact Ev.now _
   ·simp only [if_neg hq]; exact Ev.now _
  ·simp only [if_neg hp]; exact Ev.now _
def tXML : Bs := [104, 116, 116, 112, 58, 47, 47, 119, 119, 119, 46, 119, 51, 46, 111, 114, 103, 47, 88, 77, 76, 47, 49, 57, 57, 56, 47, 110, 97, 109, 101, 115, 112, 97, 99, 101]
def tNS : Bs := [104, 116, 116, 112, 58, 47, 47, 119, 119, 119, 46, 119, 51, 46, 111, 114, 103, 47, 50, 48, 48, 48, 47, 120, 109, 108, 110, 115, 47]
def xml : Bs := [120, 109, 108]
def xmlns : Bs := [120, 109, 108, 110, 115]
def mayV (p v : Bs) : Bool := if p = xml then v == tXML else if p = xmlns then false else if v = tXML then false else if v = tNS then false else if p = [] then true else v != []
theorem gmay (p v : ByteArray) : prefix_may.f p v = some (mayV p.toList v.toList) := by
 unfold prefix_may.f mayV xml xmlns tXML tNS
 generalize p.toList = p
 generalize v.toList = v
 by_cases h1 : p = [120, 109, 108]
 ·simp only [if_pos h1]
 ·by_cases h2 : p = [120, 109, 108, 110, 115]
  ·simp only [if_neg h1, if_pos h2]
  ·simp only [if_neg h1, if_neg h2]
   repeat (split; rfl)
   rfl
def hitV (p : Bs) (x : S144) : Bool := x.f0.toList == p
def spaceV (l : List S144) (p : Bs) : ByteArray × Bool :=
 match l.reverse.find? (hitV p) with
 | some x => (x.f1, p.isEmpty || !x.f1.toList.isEmpty)
 | none => (⟨#[]⟩, p.isEmpty)
def endV (u : ByteArray × Bool) (n : ByteArray) : R3 := if u.2 = true then (u.1, n, 0) else bad80
def resolveV (l : List S144) (s : Bs) (attr : Bool) : R3 :=
 if (splitV s).2.2 = 0 then
  (if (splitV s).1.toList = xml then (B tXML, (splitV s).2.1, 0)
   else if (splitV s).1.toList = xmlns then bad80
   else if (splitV s).1.toList = [] ∧ attr = true then ((⟨#[]⟩ : ByteArray), (splitV s).2.1, 0)
   else endV (spaceV l (splitV s).1.toList) (splitV s).2.1)
 else ((⟨#[]⟩ : ByteArray), (⟨#[]⟩ : ByteArray), (splitV s).2.2)
abbrev D3 := List S144 × List S144 × Int
def declV (sc re : List S144) : List S144 → D3
 | [] => (sc, re, 0)
 | x :: t =>
   if (splitV x.f0.toList).2.2 = 0 then
    (if (splitV x.f0.toList).1.toList = [] ∧ (splitV x.f0.toList).2.1.toList = xmlns then (if mayV [] x.f1.toList = true then declV (sc ++ [⟨⟨#[]⟩, x.f1⟩]) re t else ([], [], 80))
     else if (splitV x.f0.toList).1.toList = xmlns then (if mayV (splitV x.f0.toList).2.1.toList x.f1.toList = true then declV (sc ++ [⟨(splitV x.f0.toList).2.1, x.f1⟩]) re t else ([], [], 80))
     else declV sc (re ++ [x]) t)
   else ([], [], (splitV x.f0.toList).2.2)
theorem rd30 (l : List S144) (i : Nat) (h : i < l.length) : rd_T144 l (i : Int) = l[i] := by
 unfold rd_T144
 rw [Int.toNat_natCast, List.getD_eq_getElem?_getD, List.getElem?_eq_getElem h]
 rfl
theorem B_self (a : ByteArray) : B a.toList = a := by
 obtain ⟨l, rfl⟩ := B_eta a
 rw [B_toList]
theorem size_toList (a : ByteArray) : a.toList.length = a.size := by
 obtain ⟨l, rfl⟩ := B_eta a
 rw [B_toList, B_size]
theorem gdecl_l0 (l : List S144) (hl : l.length < 100000) (hn : ∀ x ∈ l, x.f0.size < 4294967281) : ∀ (d i : Nat) (sc re : List S144), l.length - i ≤ d → i ≤ l.length → sc.length ≤ i → re.length ≤ i → Ev (fun k => prefix_Declare.l0 k sc re l (l.length : Int) (i : Int)) (declV sc re (l.drop i)) := by
 have fin : ∀ (i : Nat) (sc re : List S144), ¬ i < l.length → Ev (fun k => prefix_Declare.l0 k sc re l (l.length : Int) (i : Int)) (declV sc re (l.drop i)) := by
  intro i sc re h
  refine Ev.step (fun k => (show prefix_Declare.l0 (k + 1) sc re l (l.length : Int) i = _ from by rw [prefix_Declare.l0])) ?_
  rw [List.drop_eq_nil_of_le (by omega)]
  simp only [if_neg (show ¬ (i : Int) < (l.length : Int) by omega)]
  exact Ev.now _
 intro d
 induction d with
 | zero => intro i sc re hd hi _ _; exact fin i sc re (by omega)
 | succ d ih =>
   intro i sc re hd hi hsc hre
   by_cases h : i < l.length
   ·have e1 : wrap64 ((i : Int) + 1) = ((i + 1 : Nat) : Int) := by rw [w64 (by omega) (by omega)]; rfl
    have hx := hn l[i] (List.getElem_mem h)
    refine Ev.step (fun k => (show prefix_Declare.l0 (k + 1) sc re l (l.length : Int) i = _ from by rw [prefix_Declare.l0])) ?_
    rw [List.drop_eq_getElem_cons h]
    simp only [if_pos (show (i : Int) < (l.length : Int) by omega), if_pos (show (0 : Int) ≤ (i : Int) by omega), rd30 l i h]
    have hs := gsplit_ev l[i].f0.toList (by rw [size_toList]; exact hx)
    rw [B_self] at hs
    refine Ev.bind hs ?_
    unfold declV
    have isc := fun y => ih (i + 1) (sc ++ [y]) re (by omega) (by omega) (by simp; omega) (by omega)
    have ire := ih (i + 1) sc (re ++ [l[i]]) (by omega) (by omega) (by omega) (by simp; omega)
    generalize splitV l[i].f0.toList = q
    obtain ⟨p, n, e⟩ := q
    simp only
    by_cases h0 : e = 0
    ·simp only [if_pos h0]
     by_cases h1 : p.toList = []
     ·simp only [if_pos h1]
      refine Ev.step (fun k => (show prefix_Declare.j1 (k + 1) sc re p n l (l.length : Int) i (n.toList == ([120, 109, 108, 110, 115] : List UInt8)) l[i].f0 l[i].f1 = _ from by rw [prefix_Declare.j1])) ?_
      by_cases h2 : n.toList = xmlns
      ·have hb : (n.toList == ([120, 109, 108, 110, 115] : List UInt8)) = true := beq_iff_eq.2 h2
       simp only [hb, if_true, gmay, Option.bind_some, h1, h2, and_self, e1, if_pos (show sc.length < 4398046511104 by omega), B_toList, show (⟨#[]⟩ : ByteArray).toList = [] from B_toList []]
       by_cases h3 : mayV [] l[i].f1.toList = true
       ·simp only [if_pos h3]; exact isc _
       ·simp only [if_neg h3]; exact Ev.now _
      ·have hb : (n.toList == ([120, 109, 108, 110, 115] : List UInt8)) = false := beq_eq_false_iff_ne.2 h2
       have h4 : ¬ ([] : Bs) = xmlns := by decide
       simp only [hb, Bool.false_eq_true, if_false, h1, h2, and_false, if_neg (show ¬ ([] : Bs) = [120, 109, 108, 110, 115] by decide), if_neg h4, e1, if_pos (show re.length < 4398046511104 by omega)]
       exact ire
     ·simp only [if_neg h1]
      refine Ev.step (fun k => (show prefix_Declare.j1 (k + 1) sc re p n l (l.length : Int) i false l[i].f0 l[i].f1 = _ from by rw [prefix_Declare.j1])) ?_
      simp only [Bool.false_eq_true, if_false, h1, false_and]
      by_cases h2 : p.toList = xmlns
      ·simp only [if_pos h2, if_pos (show p.toList = [120, 109, 108, 110, 115] from h2), gmay, Option.bind_some, e1, if_pos (show sc.length < 4398046511104 by omega)]
       by_cases h3 : mayV n.toList l[i].f1.toList = true
       ·simp only [if_pos h3]; exact isc _
       ·simp only [if_neg h3]; exact Ev.now _
      ·simp only [if_neg h2, if_neg (show ¬ p.toList = [120, 109, 108, 110, 115] from h2), e1, if_pos (show re.length < 4398046511104 by omega)]
       exact ire
    ·simp only [if_neg h0]; exact Ev.now _
   ·exact fin i sc re h
theorem gdecl_ev (l : List S144) (hl : l.length < 100000) (hn : ∀ x ∈ l, x.f0.size < 4294967281) : Ev (fun k => prefix_Declare.f k l) (declV [] [] l) := by
 have := gdecl_l0 l hl hn l.length 0 [] [] (by omega) (by omega) (by simp) (by simp)
 unfold prefix_Declare.f
 exact this
theorem declV_len : ∀ (l sc re : List S144), (declV sc re l).1.length ≤ sc.length + l.length ∧ (declV sc re l).2.1.length ≤ re.length + l.length := by
 intro l
 induction l with
 | nil => intro sc re; exact ⟨Nat.le_refl _, Nat.le_refl _⟩
 | cons x t ih =>
   intro sc re
   unfold declV
   have a := fun y => ih (sc ++ [y]) re
   have b := ih sc (re ++ [x])
   simp only [List.length_append, List.length_cons, List.length_nil] at a b ⊢
   have z : (([], [], (80 : Int)) : D3).1.length ≤ sc.length + (t.length + 1) ∧ (([], [], (80 : Int)) : D3).2.1.length ≤ re.length + (t.length + 1) := ⟨by simp, by simp⟩
   split
   ·split
    ·split
     ·have := a ⟨⟨#[]⟩, x.f1⟩; omega
     ·exact z
    ·split
     ·split
      ·have := a ⟨(splitV x.f0.toList).2.1, x.f1⟩; omega
      ·exact z
     ·omega
   ·exact ⟨by simp, by simp⟩
end Go.Proofs.YtadgeghipimfiaaGreatDoor.V
end
section
namespace Go.Proofs.YtadgeghipimfiaaGreatDoor.Z
open Go.Proofs.YtadgeghipimfiaaGreatDoor.U
inductive Tr where
 | mk (kind : Int) (sp nm : Bs) (attrs : List (Bs × Bs × Bs)) (kids : List Tr) (data : Bs)
def Tr.kind : Tr → Int | .mk k _ _ _ _ _ => k
def Tr.sp : Tr → Bs | .mk _ s _ _ _ _ => s
def Tr.nm : Tr → Bs | .mk _ _ n _ _ _ => n
def Tr.attrs : Tr → List (Bs × Bs × Bs) | .mk _ _ _ a _ _ => a
def Tr.kids : Tr → List Tr | .mk _ _ _ _ k _ => k
def Tr.data : Tr → Bs | .mk _ _ _ _ _ d => d
structure Tok where
 kind : Int
 name : Bs
 attrs : List (Bs × Bs)
 alone : Bool
 data : Bs
structure Nm (s n r : Bs) : Prop where
 eq : s = n ++ r
 ne : n ≠ []
 len : nameL s = n.length
def refs : List (Bs × Bs) := [([108, 116], [60]), ([103, 116], [62]), ([97, 109, 112], [38]), ([113, 117, 111, 116], [34]), ([35, 120, 68], [13]), ([35, 120, 57], [9]), ([35, 120, 65], [10])]
inductive Exp (pl : Bs → Bs) : Bs → Bs → Prop
 | last (u : Bs) : (∀ c ∈ u, c ≠ 38) → Exp pl u (pl u)
 | more (u name v behind out : Bs) : (∀ c ∈ u, c ≠ 38) → (name, v) ∈ refs → Exp pl behind out → Exp pl (u ++ 38 :: (name ++ 59 :: behind)) (pl u ++ (v ++ out))
def blankB (c : UInt8) : UInt8 := if c = 9 ∨ c = 10 ∨ c = 13 then 32 else c
def blanks (l : Bs) : Bs := l.map blankB
inductive Ats : List Bs → Bs → List (Bs × Bs) → Bool → Bs → Prop
 | alone (pre : List Bs) (r : Bs) : Ats pre (47 :: 62 :: r) [] true r
 | done (pre : List Bs) (r : Bs) : Ats pre (62 :: r) [] false r
 | more (pre : List Bs) (n u v r : Bs) (q : UInt8) (l : List (Bs × Bs)) (al : Bool) (r' : Bs) : (q = 34 ∨ q = 39) → Nm (n ++ 61 :: q :: (u ++ q :: r)) n (61 :: q :: (u ++ q :: r)) → (∀ c ∈ u, c ≠ q ∧ c ≠ 60 ∧ c ≠ 9 ∧ c ≠ 10 ∧ c ≠ 13) → Exp blanks u v → n ∉ pre →
    Ats (pre ++ [n]) r l al r' → Ats pre (32 :: (n ++ 61 :: q :: (u ++ q :: r))) ((n, v) :: l) al r'
inductive Nx : Bool → Bs → Tok → Bs → Prop
 | decl (r : Bs) : Nx true ([60, 63, 120, 109, 108, 32, 118, 101, 114, 115, 105, 111, 110, 61, 34, 49, 46, 48, 34, 63, 62] ++ r) ⟨5, [], [], false, []⟩ r
 | note (b : Bool) (d r : Bs) : Lib.cut (d ++ 45 :: 45 :: 62 :: r) [45, 45] = (d, 62 :: r, true) → Nx b (60 :: 33 :: 45 :: 45 :: (d ++ 45 :: 45 :: 62 :: r)) ⟨3, [], [], false, d⟩ r
 | pi (n x r : Bs) : Nm (n ++ (x ++ 63 :: 62 :: r)) n (x ++ 63 :: 62 :: r) → Lib.cut (x ++ 63 :: 62 :: r) [63, 62] = (x, r, true) → Lib.toLowerD n ≠ [120, 109, 108] → (x = [] ∨ (Lib.trimLeftS x [32, 9, 10, 13]).length < x.length) →
    Nx false (60 :: 63 :: (n ++ (x ++ 63 :: 62 :: r))) ⟨4, n, [], false, Lib.trimLeftS x [32, 9, 10, 13]⟩ r
 | shut (b : Bool) (n r : Bs) : Nm (n ++ 62 :: r) n (62 :: r) → Nx b (60 :: 47 :: (n ++ 62 :: r)) ⟨1, n, [], false, []⟩ r
 | opens (b : Bool) (n s : Bs) (l : List (Bs × Bs)) (al : Bool) (r : Bs) : Nm (n ++ s) n s → Ats [] s l al r → Nx b (60 :: (n ++ s)) ⟨0, n, l, al, []⟩ r
 | chars (b : Bool) (u v r : Bs) : u ≠ [] → (∀ c ∈ u, c ≠ 60) → (r = [] ∨ ∃ t, r = 60 :: t) → Lib.index u [93, 93, 62] = -1 → Exp id u v → Nx b (u ++ r) ⟨2, [], [], u.contains 38, v⟩ r
inductive Nxs : Bool → Bs → List Tok → Prop
 | nil (b : Bool) : Nxs b [] []
 | cons (b : Bool) (s r : Bs) (t : Tok) (ts : List Tok) : Nx b s t r → Nxs false r ts → Nxs b s (t :: ts)
structure Fr where
 tag : Bs
 sp : Bs
 nm : Bs
 attrs : List (Bs × Bs × Bs)
 kids : List Tr
 scope : List (Bs × Bs)
def Fr.tree (f : Fr) : Tr := .mk 0 f.sp f.nm f.attrs f.kids []
structure Gr where
 stack : List Fr
 root : Option Tr
abbrev toS (p : Bs × Bs) : Pg.S144 := ⟨X.M p.1, X.M p.2⟩
inductive Res (scope : List (Bs × Bs)) : List (Bs × Bs) → List (Bs × Bs × Bs) → Prop
 | nil : Res scope [] []
 | snoc (l : List (Bs × Bs)) (ats : List (Bs × Bs × Bs)) (k v u n : Bs) : Res scope l ats → V.resolveV (scope.map toS) k true = (X.M u, X.M n, 0) → (∀ a ∈ ats, ¬ (a.1 = u ∧ a.2.1 = n)) → Res scope (l ++ [(k, v)]) (ats ++ [(u, n, v)])
def noJoin (kids : List Tr) (t : Tr) : Prop := t.kind = 1 → ∀ k, kids.getLast? = some k → k.kind ≠ 1
def Gr.put (g : Gr) (t : Tr) : Gr :=
 match g.stack with
 | [] => { g with root := some t }
 | f :: fs => { g with stack := { f with kids := f.kids ++ [t] } :: fs }
def Gr.fits (g : Gr) (t : Tr) : Prop := match g.stack with | [] => True | f :: _ => noJoin f.kids t
def Gr.scope (g : Gr) : List (Bs × Bs) := match g.stack with | [] => [] | f :: _ => f.scope
structure Begins (g : Gr) (t : Tok) (f : Fr) : Prop where
 few : t.attrs.length ≤ 50
 low : g.stack.length < 30
 tag : f.tag = t.name
 kids : f.kids = []
 decl : ∃ more rest, V.declV [] [] (t.attrs.map toS) = (more.map toS, rest.map toS, 0) ∧ f.scope = g.scope ++ more ∧ Res f.scope rest f.attrs
 name : V.resolveV (f.scope.map toS) t.name false = (X.M f.sp, X.M f.nm, 0)
inductive Gx : Gr → Tok → Gr → Prop
 | start (g : Gr) (n : Bs) (l : List (Bs × Bs)) (d : Bs) (f : Fr) : g.root = none → Begins g ⟨0, n, l, false, d⟩ f → Gx g ⟨0, n, l, false, d⟩ { g with stack := f :: g.stack }
 | alone (g : Gr) (n : Bs) (l : List (Bs × Bs)) (d : Bs) (f : Fr) : g.root = none → Begins g ⟨0, n, l, true, d⟩ f → Gx g ⟨0, n, l, true, d⟩ (g.put f.tree)
 | ends (f : Fr) (fs : List Fr) (root : Option Tr) (l : List (Bs × Bs)) (al : Bool) (d : Bs) : Gx ⟨f :: fs, root⟩ ⟨1, f.tag, l, al, d⟩ (Gr.put ⟨fs, root⟩ f.tree)
 | chars (g : Gr) (n : Bs) (l : List (Bs × Bs)) (al : Bool) (d : Bs) : g.stack ≠ [] → d ≠ [] → g.fits (.mk 1 [] [] [] [] d) → Gx g ⟨2, n, l, al, d⟩ (g.put (.mk 1 [] [] [] [] d))
 | blank (g : Gr) (n : Bs) (l : List (Bs × Bs)) (d : Bs) : g.stack = [] → Lib.trimS d [32, 9, 10, 13] = [] → Gx g ⟨2, n, l, false, d⟩ g
 | note (g : Gr) (n : Bs) (l : List (Bs × Bs)) (al : Bool) (d : Bs) : g.stack ≠ [] → Gx g ⟨3, n, l, al, d⟩ (g.put (.mk 2 [] [] [] [] d))
 | noteTop (g : Gr) (n : Bs) (l : List (Bs × Bs)) (al : Bool) (d : Bs) : g.stack = [] → Gx g ⟨3, n, l, al, d⟩ g
 | pi (g : Gr) (n : Bs) (l : List (Bs × Bs)) (al : Bool) (d : Bs) : g.stack ≠ [] → plainB n = true → Gx g ⟨4, n, l, al, d⟩ (g.put (.mk 3 [] n [] [] d))
 | piTop (g : Gr) (n : Bs) (l : List (Bs × Bs)) (al : Bool) (d : Bs) : g.stack = [] → plainB n = true → Gx g ⟨4, n, l, al, d⟩ g
 | decl (g : Gr) (n : Bs) (l : List (Bs × Bs)) (al : Bool) (d : Bs) : Gx g ⟨5, n, l, al, d⟩ g
inductive Gxs : Gr → List Tok → Gr → Prop
 | nil (g : Gr) : Gxs g [] g
 | cons (g h k : Gr) (t : Tok) (ts : List Tok) : Gx g t h → Gxs h ts k → Gxs g (t :: ts) k
end Go.Proofs.YtadgeghipimfiaaGreatDoor.Z
end
section
namespace Go.Proofs.YtadgeghipimfiaaGreatDoor.X
open Go.RowKit Go.Shelf Go.Proofs.YtadgeghipimfiaaGreatDoorW.PrintWords Go.Proofs.YtadgeghipimfiaaGreatDoor.F Go.Proofs.YtadgeghipimfiaaGreatDoor.Pg Go.Proofs.YtadgeghipimfiaaGreatDoor.Z
set_option linter.unusedVariables false
set_option linter.unusedSimpArgs false
def kPair : Kd (Bs × Bs) := Kd.iso k144 toS
def kTok : Kd Tok := Kd.iso (Kd.pair (Kd.int .i64) (Kd.pair Kd.string (Kd.pair (Kd.slice 144 kPair) (Kd.pair Kd.bool Kd.string)))) (fun t => (t.kind, (M t.name, (t.attrs, (t.alone, M t.data)))))
theorem kTok_openM {w : World} {base : Nat} {ok : Nat → Prop} {t : Tok} {cs : List Value} (h : kTok.M w base ok t cs) : ∃ v, cs = [.int .i64 t.kind, .string (M t.name), v, .bool t.alone, .string (M t.data)] ∧ kPair.R 144 w base ok v t.attrs := by
 obtain ⟨_, _, rfl, rfl, _, _, rfl, rfl, _, _, rfl, ⟨v, rfl, hv⟩, _, _, rfl, rfl, rfl⟩ := h
 exact ⟨v, rfl, hv⟩
theorem kTok_mkM {w : World} {base : Nat} {ok : Nat → Prop} {t : Tok} {v : Value} (h : kPair.R 144 w base ok v t.attrs) : kTok.M w base ok t [.int .i64 t.kind, .string (M t.name), v, .bool t.alone, .string (M t.data)] :=
 ⟨[_], _, rfl, rfl, [_], _, rfl, rfl, [_], _, rfl, ⟨v, rfl, h⟩, [_], [_], rfl, rfl, rfl⟩
theorem kTok_openK {w : World} {t : Tok} {cs : List Value} (h : kTok.K w t cs) : ∃ A c, cs = [.int .i64 t.kind, .string (M t.name), .slice A t.attrs.length c, .bool t.alone, .string (M t.data)] ∧ t.attrs.length ≤ c ∧ kPair.C w A t.attrs.length t.attrs := by
 obtain ⟨_, _, rfl, rfl, _, _, rfl, rfl, _, _, rfl, ⟨A, c, rfl, hl, hv⟩, _, _, rfl, rfl, rfl⟩ := h
 exact ⟨A, c, rfl, hl, hv⟩
theorem kTok_sz : kTok.sz = 5 := rfl
structure Sc (W : World) (b base : Nat) (s : Bs) (ts : List Tok) (o : Value) : Prop where
 scan : Scan W b (M s) o
 row : kTok.R 60 W base (fun k => k ≠ b) o ts
 lt : b < base
 le : base ≤ W.heap.size
 few : ts.length ≤ 1000000
abbrev Ch (b base : Nat) (w w' : World) : Prop := Off (fun k => k = b ∨ base ≤ k) w w'
theorem Sc.ow {W : World} {b base : Nat} {s : Bs} {ts : List Tok} {o : Value} (h : Sc W b base s ts o) : ∀ k, o.ownBlock = some k → base ≤ k ∧ k < W.heap.size := by
 obtain ⟨xs, hx⟩ := Kd.R_own h.row
 exact fun k hk => hx.lt k hk
theorem Sc.only {W W' : World} {b base : Nat} {s s' : Bs} {ts : List Tok} {o : Value} (h : Sc W b base s ts o) (ho : Only b W W') (hs : Scan W' b (M s') o) : Sc W' b base s' ts o :=
 ⟨hs, Kd.R_step h.row (fun k hk hlt => ho.block k hlt hk), h.lt, Nat.le_trans h.le ho.size, h.few⟩
theorem Sc.below {W W' : World} {b base : Nat} {s : Bs} {ts : List Tok} {o : Value} (h : Sc W b base s ts o) (hb : Below W.heap.size W W') : Sc W' b base s ts o :=
 h.only (Off.of_below hb) (h.scan.below hb h.scan.lt)
theorem Only.ch {b base : Nat} {w w' : World} (h : Only b w w') : Ch b base w w' := h.mono fun _ _ hk => .inl hk
theorem put_tok (b base : Nat) (s : Bs) (ts : List Tok) (o : Value) (t : Tok) (cs : List Value) (okp : Nat → Prop) (w : World) (h : Sc w b base s ts o) (hn : ts.length < 1000000) (hM : kTok.M w base okp t cs) (hok : ∀ k, okp k → k ≠ b ∧ some k ≠ o.ownBlock) :
  Calls Tryz.prog 60 #[.pointer (some ⟨b, 0, none⟩), .agg cs.toArray] w fun e w' => ∃ o', e = .returned (.tuple #[]) ∧ Sc w' b base s (ts ++ [t]) o' ∧ Ch b base w w' := by
 obtain ⟨v, rfl, hv⟩ := kTok_openM hM
 obtain ⟨h0, inner, hown, hr⟩ := h.row
 have hone : v.oneCell' = true := by
  obtain ⟨A, c, e⟩ := Kd.R_slice hv
  rw [e]
  rfl
 refine (put_calls b base (M s) o ts.length inner t.kind (M t.name) (M t.data) v t.alone w h.scan hown h.lt h.le h.few hone).mono ?_
 rintro e w' ⟨g, cap, w1, W, rfl, rfl, hW, hs1, hown1, hg, hat⟩
 have hMW : kTok.M W base okp t _ := Kd.M_below (d := kTok) hM hW
 have hrW := hr.imp_ (fun _ _ hp => Kd.M_below (d := kTok) hp hW)
 have hltW : b < W.heap.size := Nat.lt_of_lt_of_le h.scan.lt hW.size
 have hrow : kTok.R 60 w1 base (fun k => k ≠ b) (.slice (some ⟨g, 0, none⟩) (ts.length + 1) cap) (ts ++ [t]) :=
  Kd.R_appended h0 hrW hMW hok (fun k hk => by omega) hown1 hg (by
   rcases hat with e | e
   ·exact .inl e.symm
   ·exact .inr ⟨g, rfl, by omega⟩)
 have hoff : Ch b base w w1 := (Off.of_below hW).trans ⟨hg.os, hg.tape, hg.output, hg.size, fun k hk hn => hg.block k hk fun e => hn (.inr (h.ow k e.symm).1)⟩
 refine ⟨_, rfl, ⟨hs1.set 1 _, Kd.R_set hrow hs1 (by decide) 1 _, h.lt, ?_, by simp; omega⟩, hoff.set _ _ (.inl (.inl rfl))⟩
 rw [Deep.nblk_setCell]
 exact Nat.le_trans h.le hoff.size
end Go.Proofs.YtadgeghipimfiaaGreatDoor.X
end
section
namespace Go.Proofs.YtadgeghipimfiaaGreatDoor.V
open Go.RowKit Go.Lib Go.Proofs.YtadgeghipimfiaaGreatDoorW.PrintWords Go.Proofs.YtadgeghipimfiaaGreatDoor.X Go.Proofs.YtadgeghipimfiaaGreatDoor.Pg Go.Proofs.YtadgeghipimfiaaGreatDoor.U
theorem upto_back (l : List S144) : (upto (backAt l) l.length).map Prod.snd = l.reverse := by
 unfold upto
 rw [List.map_map]
 refine List.ext_getElem (by simp) (fun i h1 h2 => ?_)
 simp only [List.length_map, List.length_range] at h1
 rw [List.getElem_map, List.getElem_range, List.getElem_reverse]
 show rd_T144 l ((l.length : Int) - 1 - i) = _
 unfold rd_T144
 rw [show ((l.length : Int) - 1 - i).toNat = l.length - 1 - i by omega, List.getD_eq_getElem?_getD, List.getElem?_eq_getElem (by omega)]
 rfl
theorem find_snd (a : ByteArray) : ∀ (q : List (Int × S144)), (q.find? (hitB a)).map Prod.snd = (q.map Prod.snd).find? (hitV a.toList) := by
 intro q
 induction q with
 | nil => rfl
 | cons x t ih =>
   rw [List.map_cons, List.find?_cons, List.find?_cons, show hitV a.toList x.2 = hitB a x from rfl]
   cases hitB a x with
   | true => rfl
   | false => exact ih
theorem spaceR_eq (l : List S144) (a : ByteArray) : spaceR (upto (backAt l) l.length) a = spaceV l a.toList := by
 have h := find_snd a (upto (backAt l) l.length)
 rw [upto_back] at h
 unfold spaceR spaceV
 rw [← h]
 cases (upto (backAt l) l.length).find? (hitB a) with
 | none => rfl
 | some x => rfl
end Go.Proofs.YtadgeghipimfiaaGreatDoor.V
namespace Go.Proofs.YtadgeghipimfiaaGreatDoor.X
open Go.RowKit Go.Shelf Go.Proofs.YtadgeghipimfiaaGreatDoorW.PrintWords Go.Proofs.YtadgeghipimfiaaGreatDoor.F Go.Proofs.YtadgeghipimfiaaGreatDoor.Pg Go.Proofs.YtadgeghipimfiaaGreatDoor.Z
set_option linter.unusedVariables false
set_option linter.unusedSimpArgs false
theorem space_calls2 (A : Option Addr) (c : Nat) (l : List S144) (a : ByteArray) (w : World) (hl : l.length ≤ 1000000) (hC : Kd.C k144 w A l.length l) :
  Calls Tryz.prog 140 #[.slice A l.length c, .string a] w fun e w' => e = .returned (.tuple #[.string (V.spaceV l a.toList).1, .bool (V.spaceV l a.toList).2]) ∧ Below w.heap.size w w' := by
 refine (callsIn_wide.1 (space_in Fence.wide 3 trivial trivial trivial rfl (Nat.le_refl _) A c l (by omega) a w hC)).mono ?_
 rintro e w' ⟨rfl, hb⟩
 rw [V.spaceR_eq]
 exact ⟨rfl, hb⟩
theorem split_calls (s : Bs) (w : World) (hG : Glob w) (hs : s.length < 4294967281) :
  Calls Tryz.prog 138 #[.string (M s)] w fun e w' => e = .returned (.tuple #[.string (V.splitV s).1, .string (V.splitV s).2.1, .int .i64 (V.splitV s).2.2]) ∧ Below w.heap.size w w' := by
 obtain ⟨K, hK⟩ := V.gsplit_ev s hs
 exact prefix_Split.calls K (M s) _ _ _ w hG (hK K (Nat.le_refl _))
set_option maxRecDepth 100000 in
set_option maxHeartbeats 1000000 in
theorem resolve_calls (A : Option Addr) (c : Nat) (l : List S144) (s : Bs) (attr : Bool) (u n : ByteArray) (w : World) (hG : Glob w) (hl : l.length ≤ 1000000) (hC : Kd.C k144 w A l.length l) (hs : s.length < 4294967281) (h : V.resolveV l s attr = (u, n, 0)) :
  Calls Tryz.prog 105 #[.slice A l.length c, .string (M s), .bool attr] w fun e w' => e = .returned (.tuple #[.string u, .string n, .int .i64 0]) ∧ Below w.heap.size w w' := by
 have HS := Lib.hid (split_calls s w hG hs)
 have HC := Lib.hid hC
 unfold V.resolveV at h
 generalize V.splitV s = sv at *
 obtain ⟨p, q, e3⟩ := sv
 simp only at h HS
 by_cases h0 : e3 = 0
 ·subst h0
  rw [if_pos rfl] at h
  by_cases h1 : p.toList = V.xml
  ·rw [if_pos h1] at h
   cases h
   have b1 : (p.toList == [120, 109, 108]) = true := beq_iff_eq.2 h1
   clear h1 hC hG
   go_enter Tryz.func105, Tryz.ntmps105
   go_wp2_with fail
   refine HS.out.mono ?_
   rintro e w1 ⟨rfl, hb⟩
   go_wp2
   go_ret3
   exact ⟨rfl, hb⟩
  ·rw [if_neg h1] at h
   have b1 : (p.toList == [120, 109, 108]) = false := beq_eq_false_iff_ne.2 h1
   by_cases h2 : p.toList = V.xmlns
   ·rw [if_pos h2] at h
    cases h
   ·rw [if_neg h2] at h
    have b2 : (p.toList == [120, 109, 108, 110, 115]) = false := beq_eq_false_iff_ne.2 h2
    by_cases h3 : p.toList = [] ∧ attr = true
    ·rw [if_pos h3] at h
     cases h
     obtain ⟨h3, rfl⟩ := h3
     have b3 : (p.toList == ([] : List UInt8)) = true := beq_iff_eq.2 h3
     have b4 : p.toList.isEmpty = true := List.isEmpty_iff.2 h3
     clear h1 h2 h3 hC hG
     go_enter Tryz.func105, Tryz.ntmps105
     go_wp2_with fail
     refine HS.out.mono ?_
     rintro e w1 ⟨rfl, hb⟩
     go_wp2
     go_ret3
     exact ⟨rfl, hb⟩
    ·rw [if_neg h3] at h
     obtain ⟨sv, hsv⟩ : ∃ sv, V.spaceV l p.toList = sv := ⟨_, rfl⟩
     rw [hsv] at h
     obtain ⟨us, ok⟩ := sv
     unfold V.endV at h
     cases ok with
     | false => simp [V.bad80] at h
     | true =>
       rw [if_pos rfl] at h
       simp only [Prod.mk.injEq, and_true] at h
       obtain ⟨rfl, rfl⟩ := h
       have HSV := Lib.hid hsv
       have hor : (p.toList == ([] : List UInt8)) = false ∨ attr = false := by
        by_cases hp : p.toList = []
        ·right
         cases attr with
         | false => rfl
         | true => exact absurd ⟨hp, rfl⟩ h3
        ·exact .inl (beq_eq_false_iff_ne.2 hp)
       have HOR := Lib.hid hor
       clear h1 h2 h3 hC hG hsv hor
       have tail : ∀ w1, Below w.heap.size w w1 → Calls Tryz.prog 140 #[.slice A l.length c, .string p] w1 fun e w' => e = .returned (.tuple #[.string us, .bool true]) ∧ Below w.heap.size w w' := fun w1 hb => by
        refine (space_calls2 A c l p w1 hl (Kd.C_below HC.out hb)).mono ?_
        rintro e w' ⟨rfl, hb2⟩
        rw [HSV.out]
        exact ⟨rfl, hb.trans (hb2.mono hb.size)⟩
       have HT := Lib.hid tail
       clear tail
       rcases HOR.out with b3 | rfl
       ·have b4 : p.toList.isEmpty = false := by
         cases hp : p.toList with
         | nil => rw [hp] at b3; cases b3
         | cons a t => rfl
        go_enter Tryz.func105, Tryz.ntmps105
        go_wp2_with fail
        refine HS.out.mono ?_
        rintro e w1 ⟨rfl, hb⟩
        have HB := Lib.hid hb
        clear hb
        go_wp2_with fail
        refine (HT.out w1 HB.out).mono ?_
        rintro e w2 ⟨rfl, hb2⟩
        go_wp2
        go_ret3
        exact ⟨rfl, hb2⟩
       ·obtain ⟨bb, hbb⟩ : ∃ bb, (p.toList == ([] : List UInt8)) = bb := ⟨_, rfl⟩
        cases bb with
        | true =>
          have b4 : p.toList.isEmpty = true := List.isEmpty_iff.2 (beq_iff_eq.1 hbb)
          go_enter Tryz.func105, Tryz.ntmps105
          go_wp2_with fail
          refine HS.out.mono ?_
          rintro e w1 ⟨rfl, hb⟩
          have HB := Lib.hid hb
          clear hb
          go_wp2_with fail
          refine (HT.out w1 HB.out).mono ?_
          rintro e w2 ⟨rfl, hb2⟩
          go_wp2
          go_ret3
          exact ⟨rfl, hb2⟩
        | false =>
          have b4 : p.toList.isEmpty = false := by
           cases hp : p.toList with
           | nil => rw [hp] at hbb; cases hbb
           | cons a t => rfl
          go_enter Tryz.func105, Tryz.ntmps105
          go_wp2_with fail
          refine HS.out.mono ?_
          rintro e w1 ⟨rfl, hb⟩
          have HB := Lib.hid hb
          clear hb
          go_wp2_with fail
          refine (HT.out w1 HB.out).mono ?_
          rintro e w2 ⟨rfl, hb2⟩
          go_wp2
          go_ret3
          exact ⟨rfl, hb2⟩
 ·rw [if_neg h0] at h
  simp only [Prod.mk.injEq] at h
  exact absurd h.2.2 h0
end Go.Proofs.YtadgeghipimfiaaGreatDoor.X
end
section
namespace Go.Proofs.YtadgeghipimfiaaGreatDoor.X
open Go.RowKit Go.Shelf Go.Proofs.YtadgeghipimfiaaGreatDoorW.PrintWords Go.Proofs.YtadgeghipimfiaaGreatDoor.F Go.Proofs.YtadgeghipimfiaaGreatDoor.Pg Go.Proofs.YtadgeghipimfiaaGreatDoor.Z
set_option linter.unusedVariables false
set_option linter.unusedSimpArgs false
def Stepped (b base : Nat) (s : Bs) (ts : List Tok) (w : World) (e : Ending) (w' : World) : Prop := ∃ o, e = .returned (.tuple #[]) ∧ Sc w' b base s ts o ∧ Ch b base w w'
structure Can (w : World) (b base : Nat) (s : Bs) (ts : List Tok) (o : Value) : Prop where
 sc : Sc w b base s ts o
 gb : Gb b w
 len : s.length < 4294967000
 room : ts.length < 1000000
theorem Can.only {w w' : World} {b base : Nat} {s s' : Bs} {ts : List Tok} {o : Value} (h : Can w b base s ts o) (ho : Only b w w') (hs : Scan w' b (M s') o) (hl : s'.length ≤ s.length) : Can w' b base s' ts o :=
 ⟨h.sc.only ho hs, h.gb.off ho (fun k hk => by omega), by have := h.len; omega, h.room⟩
theorem Can.below {w w' : World} {b base : Nat} {s : Bs} {ts : List Tok} {o : Value} (h : Can w b base s ts o) (hb : Below w.heap.size w w') : Can w' b base s ts o :=
 ⟨h.sc.below hb, h.gb.below hb, h.len, h.room⟩
theorem och {b : Nat} {w w' : World} (base : Nat) (h : Only b w w') : Ch b base w w' := h.ch
theorem name_nm {w : World} {b base : Nat} {s n r : Bs} {ts : List Tok} {o : Value} (h : Can w b base s ts o) (hn : Nm s n r) :
  Calls Tryz.prog 96 #[.pointer (some ⟨b, 0, none⟩)] w fun e w' => e = .returned (.string (M n)) ∧ Only b w w' ∧ Can w' b base r ts o := by
 obtain ⟨k, hK⟩ := U.gname_ev s (by have := h.len; omega)
 have hk := hK k (Nat.le_refl _)
 simp only at hk
 have e : U.nameRes s (U.nameL s) = (M n, M r, 0) := by
  rw [hn.len, U.nameRes_some (by have := List.length_pos_iff.2 hn.ne; omega), hn.eq, List.take_left, List.drop_left]
  rfl
 rw [e] at hk
 refine (name_calls b (M s) (M n) (M r) o w h.gb.glob h.sc.scan k hk).mono ?_
 rintro e w' ⟨rfl, ho, hs⟩
 exact ⟨rfl, ho, h.only ho hs (by rw [hn.eq, List.length_append]; omega)⟩
theorem space_can {w : World} {b base : Nat} {s : Bs} {ts : List Tok} {o : Value} (h : Can w b base s ts o) :
  Calls Tryz.prog 94 #[.pointer (some ⟨b, 0, none⟩)] w fun e w' => e = .returned (.bool (decide ((Lib.trimLeftS s wsS).length < s.length))) ∧ Only b w w' ∧ Can w' b base (Lib.trimLeftS s wsS) ts o := by
 refine (space_calls b (M s) o w h.sc.scan).mono ?_
 rintro e w' ⟨rfl, ho, hs⟩
 exact ⟨rfl, ho, h.only ho hs (List.dropWhile_suffix _).length_le⟩
theorem take_yes {w : World} {b base : Nat} {t r : Bs} {ts : List Tok} {o : Value} (h : Can w b base (t ++ r) ts o) :
  Calls Tryz.prog 58 #[.pointer (some ⟨b, 0, none⟩), .string (M t)] w fun e w' => e = .returned (.bool true) ∧ Only b w w' ∧ Can w' b base r ts o := by
 have e1 : Lib.hasPrefix (L (M (t ++ r))) (L (M t)) = true := by
  show t.isPrefixOf (t ++ r) = true
  rw [List.isPrefixOf_iff_prefix]
  exact List.prefix_append _ _
 have e2 : Lib.trimPrefix (L (M (t ++ r))) (L (M t)) = r := by
  unfold Lib.trimPrefix
  rw [e1, if_pos rfl]
  exact List.drop_left
 refine (take_calls b (M (t ++ r)) (M t) o w h.sc.scan).mono ?_
 rintro e w' ⟨rfl, ho, hs⟩
 rw [e2] at hs
 exact ⟨by rw [e1], ho, h.only ho hs (by simp)⟩
theorem take_no {w : World} {b base : Nat} {s t : Bs} {ts : List Tok} {o : Value} (h : Can w b base s ts o) (hp : t.isPrefixOf s = false) :
  Calls Tryz.prog 58 #[.pointer (some ⟨b, 0, none⟩), .string (M t)] w fun e w' => e = .returned (.bool false) ∧ Only b w w' ∧ Can w' b base s ts o := by
 have e1 : Lib.hasPrefix (L (M s)) (L (M t)) = false := hp
 have e2 : Lib.trimPrefix (L (M s)) (L (M t)) = s := by
  unfold Lib.trimPrefix
  rw [e1, if_neg (by decide)]
 refine (take_calls b (M s) (M t) o w h.sc.scan).mono ?_
 rintro e w' ⟨rfl, ho, hs⟩
 rw [e2] at hs
 exact ⟨by rw [e1], ho, h.only ho hs (Nat.le_refl _)⟩
theorem upTo_can {w : World} {b base : Nat} {s t u v : Bs} {ts : List Tok} {o : Value} (h : Can w b base s ts o) (hcut : Lib.cut s t = (u, v, true)) :
  Calls Tryz.prog 61 #[.pointer (some ⟨b, 0, none⟩), .string (M t)] w fun e w' => e = .returned (.string (M u)) ∧ Only b w w' ∧ Can w' b base v ts o := by
 refine (upTo_calls b (M s) (M t) o w h.gb.glob h.sc.scan (by show s.length < _; have := h.len; omega) u v hcut).mono ?_
 rintro e w' ⟨rfl, ho, hs⟩
 refine ⟨rfl, ho, h.only ho hs ?_⟩
 unfold Lib.cut at hcut
 split at hcut
 ·cases hcut
  rw [List.length_drop]
  omega
 ·cases hcut
theorem put_bare {w : World} {b base : Nat} {s : Bs} {ts : List Tok} {o : Value} (h : Can w b base s ts o) (k : Int) (n : Bs) (al : Bool) (d : Bs) :
  Calls Tryz.prog 60 #[.pointer (some ⟨b, 0, none⟩), .agg #[.int .i64 k, .string (M n), .slice none 0 0, .bool al, .string (M d)]] w (Stepped b base s (ts ++ [⟨k, n, [], al, d⟩]) w) :=
 put_tok b base s ts o ⟨k, n, [], al, d⟩ _ (fun _ => False) w h.sc h.room (kTok_mkM (t := ⟨k, n, [], al, d⟩) (Kd.R_nil _ _ _ _ _)) (fun _ h => h.elim)
theorem Stepped.after {b base : Nat} {s : Bs} {ts : List Tok} {w w1 : World} {e : Ending} {w' : World} (ho : Ch b base w w1) (h : Stepped b base s ts w1 e w') : Stepped b base s ts w e w' := by
 obtain ⟨o, he, hs, hc⟩ := h
 exact ⟨o, he, hs, ho.trans (hc.mono fun k _ hk => hk)⟩
theorem shut_can {w : World} {b base : Nat} {n r : Bs} {ts : List Tok} {o : Value} (h : Can w b base (n ++ 62 :: r) ts o) (hn : Nm (n ++ 62 :: r) n (62 :: r)) :
  Calls Tryz.prog 63 #[.pointer (some ⟨b, 0, none⟩)] w (Stepped b base r (ts ++ [⟨1, n, [], false, []⟩]) w) := by
 have H := Lib.hid h
 have HN := Lib.hid hn
 clear h hn
 go_enter Tryz.func63, Tryz.ntmps63
 go_wp2_with fail
 refine (name_nm H.out HN.out).mono ?_
 rintro e w1 ⟨rfl, ho1, h1⟩
 have HO1 := Lib.hid (och base ho1)
 have H1 := Lib.hid h1
 clear ho1 h1
 go_wp2_with fail
 refine (space_can H1.out).mono ?_
 rintro e w2 ⟨rfl, ho2, h2⟩
 have e2 : Lib.trimLeftS (62 :: r) wsS = 62 :: r := rfl
 rw [e2] at h2
 have HO2 := Lib.hid (HO1.out.trans (och base ho2))
 have H2 := Lib.hid h2
 clear ho2 h2 e2
 go_wp2_with fail
 refine (take_yes (t := [62]) H2.out).mono ?_
 rintro e w3 ⟨rfl, ho3, h3⟩
 have HO3 := Lib.hid (HO2.out.trans (och base ho3))
 have H3 := Lib.hid h3
 clear ho3 h3
 go_wp2_with fail
 refine (must_ok w3).mono ?_
 rintro e w4 ⟨rfl, rfl⟩
 go_wp2_with fail
 refine (put_bare H3.out 1 n false []).mono ?_
 rintro e w5 h5
 have H5 := Lib.hid (h5.after HO3.out)
 obtain ⟨o5, rfl, _⟩ := h5
 go_wp2
 go_end0
 exact H5.out
theorem lower_calls (s : ByteArray) (w : World) (hG : Glob w) (hs : s.size < 35184372088832) :
  Calls Tryz.prog 42 #[.string s] w fun e w' => e = .returned (.string (M (Lib.toLowerD (L s)))) ∧ Below w.heap.size w w' :=
 Any.strings_ToLower_any Tryz.lays159 Tryz.Builder_Extra_159 s w hs hG.cas hG.tabs
theorem note_can {w : World} {b base : Nat} {d r : Bs} {ts : List Tok} {o : Value} (h : Can w b base (d ++ 45 :: 45 :: 62 :: r) ts o) (hc : Lib.cut (d ++ 45 :: 45 :: 62 :: r) [45, 45] = (d, 62 :: r, true)) :
  Calls Tryz.prog 59 #[.pointer (some ⟨b, 0, none⟩)] w (Stepped b base r (ts ++ [⟨3, [], [], false, d⟩]) w) := by
 have H := Lib.hid h
 have HN := Lib.hid hc
 clear h hc
 go_enter Tryz.func59, Tryz.ntmps59
 go_wp2_with fail
 refine (upTo_can (t := [45, 45]) H.out HN.out).mono ?_
 rintro e w1 ⟨rfl, ho1, h1⟩
 have HO1 := Lib.hid (och base ho1)
 have H1 := Lib.hid h1
 clear ho1 h1
 go_wp2_with fail
 refine (take_yes (t := [62]) H1.out).mono ?_
 rintro e w3 ⟨rfl, ho3, h3⟩
 have HO3 := Lib.hid (HO1.out.trans (och base ho3))
 have H3 := Lib.hid h3
 clear ho3 h3
 go_wp2_with fail
 refine (must_ok w3).mono ?_
 rintro e w4 ⟨rfl, rfl⟩
 go_wp2_with fail
 refine (put_bare H3.out 3 [] false d).mono ?_
 rintro e w5 h5
 have H5 := Lib.hid (h5.after HO3.out)
 obtain ⟨o5, rfl, _⟩ := h5
 go_wp2
 go_end0
 exact H5.out
theorem pi_can {w : World} {b base : Nat} {n x r : Bs} {ts : List Tok} {o : Value} (h : Can w b base (n ++ (x ++ 63 :: 62 :: r)) ts o) (hn : Nm (n ++ (x ++ 63 :: 62 :: r)) n (x ++ 63 :: 62 :: r)) (hc : Lib.cut (x ++ 63 :: 62 :: r) [63, 62] = (x, r, true))
  (hl : Lib.toLowerD n ≠ [120, 109, 108]) (hx : x = [] ∨ (Lib.trimLeftS x [32, 9, 10, 13]).length < x.length) :
  Calls Tryz.prog 62 #[.pointer (some ⟨b, 0, none⟩)] w (Stepped b base r (ts ++ [⟨4, n, [], false, Lib.trimLeftS x [32, 9, 10, 13]⟩]) w) := by
 have H := Lib.hid h
 have HN := Lib.hid hn
 have HC := Lib.hid hc
 have hnl : n.length < 35184372088832 := by have := h.len; rw [List.length_append] at this; omega
 have hne : (Lib.toLowerD n != [120, 109, 108]) = true := by simpa using hl
 have HL := Lib.hid (show (Lib.toLowerD (L (M n)) == ([120, 109, 108] : List UInt8)) = false by rw [← Bool.not_eq_true']; exact hne)
 clear h hn hc hl hne
 go_enter Tryz.func62, Tryz.ntmps62
 go_wp2_with fail
 refine (name_nm H.out HN.out).mono ?_
 rintro e w1 ⟨rfl, ho1, h1⟩
 have HO1 := Lib.hid (och base ho1)
 have H1 := Lib.hid h1
 clear ho1 h1
 go_wp2_with fail
 refine (upTo_can (t := [63, 62]) H1.out HC.out).mono ?_
 rintro e w2 ⟨rfl, ho2, h2⟩
 have HO2 := Lib.hid (HO1.out.trans (och base ho2))
 have H2 := Lib.hid h2
 clear ho2 h2
 go_wp2_with fail
 refine (skip_calls (M x) w2).mono ?_
 rintro e w3 ⟨rfl, ho3⟩
 have HO3 := Lib.hid (HO2.out.trans (Off.of_below ho3))
 have H3 := Lib.hid (H2.out.below ho3)
 clear ho3
 go_wp2_with fail
 refine (lower_calls (M n) w3 H3.out.gb.glob (by show n.length < _; exact hnl)).mono ?_
 rintro e w4 ⟨rfl, ho4⟩
 have HO4 := Lib.hid (HO3.out.trans (Off.of_below ho4))
 have H4 := Lib.hid (H3.out.below ho4)
 clear ho4
 have hl2 := HL.out
 rcases hx with rfl | hx
 ·have hx0 : ((M ([] : List UInt8)).toList == ([] : List UInt8)) = true := (M_empty []).2.1
  go_wp2_with fail
  refine (must_ok w4).mono ?_
  rintro e w5 ⟨rfl, rfl⟩
  clear hx0 hl2
  go_wp2_with fail
  refine (put_bare H4.out 4 n false (Lib.trimLeftS [] [32, 9, 10, 13])).mono ?_
  rintro e w6 h6
  have H6 := Lib.hid (h6.after HO4.out)
  obtain ⟨o6, rfl, _⟩ := h6
  go_wp2
  go_end0
  exact H6.out
 ·have hx1 : x ≠ [] := by rintro rfl; simp at hx
  have hx0 : ((M x).toList == ([] : List UInt8)) = false := by rw [(M_empty x).2.1]; simpa using hx1
  have hx2 : decide ((Lib.trimLeftS (L (M x)) wsS).length < x.length) = true := decide_eq_true hx
  go_wp2_with fail
  refine (must_ok w4).mono ?_
  rintro e w5 ⟨rfl, rfl⟩
  clear hx0 hl2 hx2
  go_wp2_with fail
  refine (put_bare H4.out 4 n false (Lib.trimLeftS x [32, 9, 10, 13])).mono ?_
  rintro e w6 h6
  have H6 := Lib.hid (h6.after HO4.out)
  obtain ⟨o6, rfl, _⟩ := h6
  go_wp2
  go_end0
  exact H6.out
end Go.Proofs.YtadgeghipimfiaaGreatDoor.X
end
section
namespace Go.Proofs.YtadgeghipimfiaaGreatDoor.X
open Go.RowKit Go.Shelf Go.Proofs.YtadgeghipimfiaaGreatDoorW.PrintWords Go.Proofs.YtadgeghipimfiaaGreatDoor.F Go.Proofs.YtadgeghipimfiaaGreatDoor.Pg
set_option linter.unusedVariables false
set_option linter.unusedSimpArgs false
theorem disable (w : World) : (callFunc 187 #[]).run Tryz.prog w = .ok (.value (.tuple #[])) w := run_call_mark0 Tryz.func187 (by kernel_rfl) (by kernel_rfl) (by kernel_rfl) .disable (by kernel_rfl) w
theorem enable (w : World) : (callFunc 189 #[]).run Tryz.prog w = .ok (.value (.tuple #[])) w := run_call_mark0 Tryz.func189 (by kernel_rfl) (by kernel_rfl) (by kernel_rfl) .enable (by kernel_rfl) w
theorem acquire (a : Addr) (w : World) : (callFunc 190 #[.pointer (some a)]).run Tryz.prog w = .ok (.value (.tuple #[])) w := run_call_marked Tryz.func190 (by kernel_rfl) (by kernel_rfl) (by kernel_rfl) .acquire (by kernel_rfl) a w
theorem releaseMerge (a : Addr) (w : World) : (callFunc 192 #[.pointer (some a)]).run Tryz.prog w = .ok (.value (.tuple #[])) w := run_call_marked Tryz.func192 (by kernel_rfl) (by kernel_rfl) (by kernel_rfl) .releaseMerge (by kernel_rfl) a w
theorem store_deferred (a : Addr) (x : Value) (u : FrameMode) (w : World) (hc : w.cell? a = some x) (hz : w.frozen? a = false) :
  CallsD Tryz.prog 154 #[.pointer (some a), .bool true] u w fun e u' w' => u' = u ∧ (e = .returned (.tuple #[]) ∧ w' = w.drew.setCell a (.int .u32 1)) := by
 have hc' : w.drew.cell? a = some x := by go_simp
 have hz' : w.drew.frozen? a = false := by go_simp
 have hst := run_call_store (P := Tryz.prog) Tryz.func175 (by kernel_rfl) (by kernel_rfl) (by kernel_rfl) (by kernel_rfl) (k := .u32) (y := 1) hc' hz'
 go_enter_d Tryz.func154, Tryz.ntmps154
 go_wp2
 go_region_calls
 all_goals (go_end0; exact ⟨rfl, rfl⟩)
set_option maxRecDepth 100000 in
theorem unlock_deferred (a : Addr) (u : FrameMode) (w : World) (hc : w.cell? a = some (.int .i32 1)) (hz : w.frozen? a = false) :
  CallsD Tryz.prog 153 #[.pointer (some a)] u w fun e u' w' => u' = u ∧ (e = .returned (.tuple #[]) ∧ w' = w.setCell a (.int .i32 0)) := by
 have hd := disable
 have he := enable
 have hr := releaseMerge
 have hadd := run_call_add (P := Tryz.prog) Tryz.func193 (by kernel_rfl) (by kernel_rfl) (by kernel_rfl) .i32 (by kernel_rfl) (y := -1) (s := 0) hc hz (by simp [go_sem]; rfl)
 have hcv := run_convert_to_unsafe (P := Tryz.prog) (src := 243) (dst := 167) Tryz.underlying243 Tryz.underlying167 (by kernel_rfl) hc
 go_enter_d Tryz.func153, Tryz.ntmps153
 go_wp2
 go_end0
 go_wp2
 go_end0
 exact ⟨rfl, rfl⟩
set_option maxRecDepth 100000 in
theorem lock_free (a : Addr) (w : World) (hc : w.cell? a = some (.int .i32 0)) (hz : w.frozen? a = false) :
  Calls Tryz.prog 152 #[.pointer (some a)] w fun e w' => e = .returned (.tuple #[]) ∧ w' = w.setCell a (.int .i32 1) := by
 have hd := disable
 have he := enable
 have ha := acquire
 have hcas := run_call_cas_hit (P := Tryz.prog) Tryz.func188 (by kernel_rfl) (by kernel_rfl) (by kernel_rfl) .i32 (by kernel_rfl) (y := 1) hc hz
 have hc' : (w.setCell a (.int .i32 1)).cell? a = some (.int .i32 1) := World.cell?_setCell_same w a _ hc
 have hcv := run_convert_to_unsafe (P := Tryz.prog) (src := 243) (dst := 167) Tryz.underlying243 Tryz.underlying167 (by kernel_rfl) hc'
 go_enter Tryz.func152, Tryz.ntmps152
 go_wp2
 first | go_end0 | (simp only [Exit.inBlock, Exit.then]; refine bodyPost_ret (results_none rfl _ _ _) rfl ?_) | refine bodyPost_ret (results_none rfl _ _ _) rfl ?_
 go_wp2
 go_end0
 exact ⟨rfl, rfl⟩
def Five (W : World) (b : Nat) (v0 v1 v2 v3 v4 : Value) : Prop := W.heap[b]? = some (.cells #[v0, v1, v2, v3, v4] 131 (0, 0))
theorem Five.cell {W : World} {b : Nat} {v0 v1 v2 v3 v4 : Value} (h : Five W b v0 v1 v2 v3 v4) (i : Nat) : W.cell? ⟨b, i, none⟩ = (#[v0, v1, v2, v3, v4] : Array Value)[i]? := by simp [World.cell?, show W.heap[b]? = _ from h]
theorem Five.frozen {W : World} {b : Nat} {v0 v1 v2 v3 v4 : Value} (h : Five W b v0 v1 v2 v3 v4) (i : Nat) : W.frozen? ⟨b, i, none⟩ = false := by simp [World.frozen?, show W.heap[b]? = _ from h]
theorem Five.lt {W : World} {b : Nat} {v0 v1 v2 v3 v4 : Value} (h : Five W b v0 v1 v2 v3 v4) : b < W.heap.size := (Array.getElem?_eq_some_iff.1 h).1
theorem Five.below {W W' : World} {b : Nat} {v0 v1 v2 v3 v4 : Value} (h : Five W b v0 v1 v2 v3 v4) (hb : Below W.heap.size W W') : Five W' b v0 v1 v2 v3 v4 := (hb.block b h.lt).trans h
theorem cells_set {W : World} {b : Nat} {cs : Array Value} {t : TypeId} (h : W.heap[b]? = some (.cells cs t (0, 0))) (i : Nat) (y : Value) : (W.setCell ⟨b, i, none⟩ y).heap[b]? = some (.cells (cs.setIfInBounds i y) t (0, 0)) := by
 obtain ⟨hlt, hk⟩ := Array.getElem?_eq_some_iff.1 h
 show (W.heap.modify b _)[b]? = _
 rw [Array.getElem?_eq_getElem (by rw [Array.size_modify]; exact hlt), Array.getElem_modify_self, hk]
 rfl
set_option maxRecDepth 100000 in
set_option maxHeartbeats 1600000 in
theorem slow_any (b : Nat) (v2 v3 v4 : Value) (w : World) (h5 : Five w b (.int .u32 0) (.int .i32 0) v2 v3 v4) (Q : World → Prop) (hQ : ∀ w', Q w' → ∃ y3 y4, Five w' b (.int .u32 0) (.int .i32 1) v2 y3 y4)
  (H : Calls Tryz.prog 81 #[.pointer (some ⟨b, 0, none⟩)] (w.setCell ⟨b, 1, none⟩ (.int .i32 1)) fun e w' => e = .returned (.tuple #[]) ∧ Q w') :
  Calls Tryz.prog 120 #[.pointer (some ⟨b, 0, none⟩), .func (.func 81) #[.pointer (some ⟨b, 0, none⟩)] #[]] w fun e w' => e = .returned (.tuple #[]) ∧ ∃ w1, Q w1 ∧ w' = (w1.drew.setCell ⟨b, 0, none⟩ (.int .u32 1)).setCell ⟨b, 1, none⟩ (.int .i32 0) := by
 have h0 : w.cell? ⟨b, 0, none⟩ = some (.int .u32 0) := (h5.cell 0).trans rfl
 have h1 : w.cell? ⟨b, 1, none⟩ = some (.int .i32 0) := (h5.cell 1).trans rfl
 have f1 := h5.frozen 1
 have hl := run_call_load (P := Tryz.prog) Tryz.func151 (by kernel_rfl) (by kernel_rfl) (by kernel_rfl) .u32 (by kernel_rfl) (w := w.setCell ⟨b, 1, none⟩ (.int .i32 1)) (a := ⟨b, 0, none⟩) (x := 0) ((World.cell?_setCell_other _ ⟨b, 1, none⟩ ⟨b, 0, none⟩ _ (by simp)).trans h0)
 have hnot : ∀ (x : Bool) (w : World), (Op.unary .not (.bool x)).run Tryz.prog w = .ok (.bool (!x)) w := fun _ _ => rfl
 have HH := Aside0.mk H
 have HQ := Aside0.mk hQ
 clear H hQ
 go_enter_defers Tryz.func120, Tryz.ntmps120
 go_wp2_with (first | (go_at_call 152; refine (lock_free ⟨b, 1, none⟩ _ (by go_simp) (by go_simp)).mono ?_; rintro e w' ⟨rfl, rfl⟩) | (go_at_call 119; go_in))
 refine HH.out.mono ?_
 rintro e w1 ⟨rfl, hq⟩
 obtain ⟨y3, y4, h6⟩ := HQ.out w1 hq
 go_wp2
 refine leaves_cons (f := 154) (args := #[.pointer (some ⟨b, 0, none⟩), .bool true]) (by simp) (by simp [go_sem]) ?_
 refine (store_deferred ⟨b, 0, none⟩ (.int .u32 0) .returning _ ((h6.cell 0).trans rfl) (h6.frozen 0)).mono ?_
 rintro e u' w'' ⟨rfl, rfl, rfl⟩
 refine leaves_cons (f := 153) (args := #[.pointer (some ⟨b, 1, none⟩)]) (by simp [settle]) (by simp [go_sem]) ?_
 have h7 : Five (w1.drew.setCell ⟨b, 0, none⟩ (.int .u32 1)) b (.int .u32 1) (.int .i32 1) v2 y3 y4 := cells_set (W := w1.drew) h6 0 _
 refine (unlock_deferred ⟨b, 1, none⟩ _ _ ((h7.cell 1).trans rfl) (h7.frozen 1)).mono ?_
 rintro e u' w'' ⟨rfl, rfl, rfl⟩
 simp [Leaves, settle, results, Tryz.results120]
 exact ⟨w1, hq, rfl⟩
theorem do_first (b : Nat) (v2 v3 v4 : Value) (w : World) (h5 : Five w b (.int .u32 0) (.int .i32 0) v2 v3 v4) (Q : World → Prop) (hQ : ∀ w', Q w' → ∃ y3 y4, Five w' b (.int .u32 0) (.int .i32 1) v2 y3 y4)
  (H : Calls Tryz.prog 81 #[.pointer (some ⟨b, 0, none⟩)] (w.setCell ⟨b, 1, none⟩ (.int .i32 1)) fun e w' => e = .returned (.tuple #[]) ∧ Q w') :
  Calls Tryz.prog 80 #[.pointer (some ⟨b, 0, none⟩), .func (.func 81) #[.pointer (some ⟨b, 0, none⟩)] #[]] w fun e w' => e = .returned (.tuple #[]) ∧ ∃ w1, Q w1 ∧ w' = (w1.drew.setCell ⟨b, 0, none⟩ (.int .u32 1)).setCell ⟨b, 1, none⟩ (.int .i32 0) := by
 have h0 : w.cell? ⟨b, 0, none⟩ = some (.int .u32 0) := (h5.cell 0).trans rfl
 have hl := run_call_load (P := Tryz.prog) Tryz.func151 (by kernel_rfl) (by kernel_rfl) (by kernel_rfl) .u32 (by kernel_rfl) h0
 have hnot : ∀ (x : Bool) (w : World), (Op.unary .not (.bool x)).run Tryz.prog w = .ok (.bool (!x)) w := fun _ _ => rfl
 have HS := Aside0.mk (slow_any b v2 v3 v4 w h5 Q hQ H)
 clear H hQ
 go_enter Tryz.func80, Tryz.ntmps80
 go_wp2_with (first | (go_at_call 120; refine HS.out.mono ?_; rintro e w' ⟨rfl, w1, hq, rfl⟩) | (go_at_call 119; go_in))
 go_end0
 exact ⟨rfl, w1, hq, rfl⟩
def StrRow (W : World) (g : Nat) (l : List Bs) : Prop := ∀ (j : Nat) (hj : j < l.length), W.cell? ⟨g, j, none⟩ = some (.string (M l[j]))
theorem StrRow.same {W W' : World} {g : Nat} {l : List Bs} (h : StrRow W g l) (hb : W'.heap[g]? = W.heap[g]?) : StrRow W' g l := fun j hj => by
 have := h j hj
 unfold World.cell? at this ⊢
 rw [hb]
 exact this
theorem StrRow.below {W W' : World} {g B : Nat} {l : List Bs} (h : StrRow W g l) (hb : Below B W W') (hg : g < B) : StrRow W' g l := h.same (hb.block g hg)
theorem info9 : ∃ i, Tryz.prog.info? 9 = some i ∧ i.zero = some (.string ⟨#[]⟩) ∧ i.size = 1 ∧ i.bytes = 16 := by
 have h : (Tryz.prog.info? 9).map (fun i => (i.zero, i.size, i.bytes)) = some (some (.string ⟨#[]⟩), 1, 16) := by kernel_rfl
 cases hi : Tryz.prog.info? 9 with
 | none => rw [hi] at h; cases h
 | some i => rw [hi] at h; simp at h; exact ⟨i, rfl, h.1, h.2.1, h.2.2⟩
theorem own_nil (w : World) (base : Nat) (e : TypeId) (size : Nat) : w.ownsRow base e size (.slice none 0 0) 0 [] := ⟨by simp, .inl ⟨rfl, rfl⟩⟩
theorem below_grown {w w' : World} (h : w.grownBy w' none) : Below w.heap.size w w' := ⟨h.os, h.tape, h.output, h.size, fun k hk => h.block k hk (by simp)⟩
structure Fresh (W : World) (b : Nat) (l : List Bs) : Prop where
 five : ∃ g c, Five W b (.int .u32 0) (.int .i32 0) (.int .u32 0) .nilIface (.slice (some ⟨g, 0, none⟩) l.length c) ∧ StrRow W g l ∧ (∃ cs, W.heap[g]? = some (.cells cs 9 (0, 0))) ∧ g ≠ b
set_option maxRecDepth 100000 in
set_option maxHeartbeats 1000000 in
theorem newrep_calls (g c : Nat) (l : List Bs) (w : World) (hr : StrRow w g l) (h0 : 0 < l.length) (h100 : l.length ≤ 100) (he : l.length % 2 = 0) :
  Calls Tryz.prog 46 #[.slice (some ⟨g, 0, none⟩) l.length c] w fun e w' => ∃ b, e = .returned (.pointer (some ⟨b, 0, none⟩)) ∧ Below w.heap.size w w' ∧ w.heap.size ≤ b ∧ Fresh w' b l := by
 have hu247 := Tryz.underlying131
 have hu37 := Tryz.underlying86
 obtain ⟨i0, hi0, hz0, hs0, hb0⟩ := info9
 have HR := Lib.hid hr
 have hm : ((l.length : Int) % 2 == 1) = false := by rw [beq_eq_false_iff_ne]; omega
 clear hr
 go_enter Tryz.func46, Tryz.ntmps46
 go_wp2_with (at_builtin; refine wpList_append_lies _ rfl (.const (.slice none 0 0)) (.tmp 8) 86 rfl w.heap.size 9 i0 (.string ⟨#[]⟩) 1 16 Tryz.underlying86 hi0 hz0 hs0 hb0 rfl (by decide) (.slice none 0 0) 0 [] rfl (own_nil _ _ _ _) ⟨g, 0, none⟩ l.length c (l.map fun x => .string (M x)) rfl (by simp) ?_ ?_ (by omega) (by unfold maxLen; omega) (by omega) (by simp) _ rfl ?_)
 ·intro j u hu
  rw [List.getElem?_map] at hu
  cases hl : l[j]? with
  | none => rw [hl] at hu; cases hu
  | some x =>
    rw [hl] at hu
    obtain ⟨hj, hx⟩ := List.getElem?_eq_some_iff.1 hl
    have := HR.out j hj
    have hadd : (⟨g, 0, none⟩ : Addr).add j = ⟨g, j, none⟩ := by unfold Addr.add; split <;> simp_all
    rw [hadd, this, hx]
    exact hu
 ·intro u hu
  obtain ⟨x, _, rfl⟩ := List.mem_map.1 hu
  rfl
 intro g1 cap w1 hown hgrow hat hlt
 have hrow : StrRow w1 g1 l := fun j hj => by
  have := hown.cellAt j (by omega)
  rw [this, List.getElem?_map, List.getElem?_eq_getElem hj]
  rfl
 have HS := Lib.hid (And.intro hrow (And.intro (below_grown hgrow) (And.intro (And.intro hlt (own_typed hown g1 rfl)) (hat.resolve_left (fun h => by cases h)))))
 clear hown hgrow hat hlt hrow hm
 go_wp2
 go_ret
 obtain ⟨hrow, hb, hlt, hg⟩ := HS.out
 have h5 := World.alloc_heap_new w1 (.cells #[.int .u32 0, .int .i32 0, .int .u32 0, .nilIface, .slice (some ⟨g1, 0, none⟩) l.length cap] 131)
 have hb2 : Below w.heap.size w (w1.alloc (.cells #[.int .u32 0, .int .i32 0, .int .u32 0, .nilIface, .slice (some ⟨g1, 0, none⟩) l.length cap] 131)) := hb.alloc hb.size _
 obtain ⟨cs, hcs⟩ := hlt.2
 refine ⟨w1.heap.size, rfl, hb2, hb.size, ⟨g1, cap, h5, hrow.below ((Below.refl _ w1).alloc (Nat.le_refl _) _) hlt.1, ⟨cs, ?_⟩, by omega⟩⟩
 exact (((Below.refl _ w1).alloc (Nat.le_refl _) _).block g1 hlt.1).trans hcs
def blankL : List Bs := [[9], [32], [10], [32], [13], [32]]
def BTab (W : World) (p : Nat) : Prop := ∃ cs, W.heap[p]? = some (.cells cs 193 (0, 0)) ∧ cs.size = 256 ∧ ∀ i, i < 256 → i ≠ 9 → i ≠ 10 → i ≠ 13 → cs[i]? = some (.int .u8 (i : Int))
structure Filled (W : World) (p k : Nat) : Prop where
 blk : ∃ cs, W.heap[p]? = some (.cells cs 193 (0, 0)) ∧ cs.size = 256 ∧ ∀ i, i < k → cs[i]? = some (.int .u8 (i : Int))
theorem Filled.cell {W : World} {p k i : Nat} (h : Filled W p k) (hi : i < 256) : ∃ v, W.cell? ⟨p, i, none⟩ = some v := by
 obtain ⟨cs, hb, hs, _⟩ := h.blk
 exact ⟨cs[i]'(by omega), by simp [World.cell?, hb, Array.getElem?_eq_getElem (show i < cs.size by omega)]⟩
theorem Filled.frozen {W : World} {p k : Nat} (h : Filled W p k) (i : Nat) : W.frozen? ⟨p, i, none⟩ = false := by
 obtain ⟨cs, hb, hs, _⟩ := h.blk
 simp [World.frozen?, hb]
theorem Filled.put {W : World} {p k : Nat} (h : Filled W p k) (hk : k < 256) : Filled (W.setCell ⟨p, k, none⟩ (.int .u8 (k : Int))) p (k + 1) := by
 obtain ⟨cs, hb, hs, hc⟩ := h.blk
 refine ⟨_, cells_set hb k _, by rw [Array.size_setIfInBounds]; exact hs, fun i hi => ?_⟩
 by_cases e : k = i
 ·subst e
  rw [Array.getElem?_setIfInBounds_self_of_lt (by omega)]
 ·rw [Array.getElem?_setIfInBounds_ne e]
  exact hc i (by omega)
theorem BTab.cell {W : World} {p i : Nat} (h : BTab W p) (hi : i < 256) : ∃ v, W.cell? ⟨p, i, none⟩ = some v := by
 obtain ⟨cs, hb, hs, _⟩ := h
 exact ⟨cs[i]'(by omega), by simp [World.cell?, hb, Array.getElem?_eq_getElem (show i < cs.size by omega)]⟩
theorem BTab.frozen {W : World} {p : Nat} (h : BTab W p) (i : Nat) : W.frozen? ⟨p, i, none⟩ = false := by
 obtain ⟨cs, hb, hs, _⟩ := h
 simp [World.frozen?, hb]
theorem BTab.put {W : World} {p j : Nat} (h : BTab W p) (hj : j = 9 ∨ j = 10 ∨ j = 13) (v : Value) : BTab (W.setCell ⟨p, j, none⟩ v) p := by
 obtain ⟨cs, hb, hs, hc⟩ := h
 refine ⟨_, cells_set hb j _, by rw [Array.size_setIfInBounds]; exact hs, fun i hi h9 h10 h13 => ?_⟩
 rw [Array.getElem?_setIfInBounds_ne (by omega)]
 exact hc i hi h9 h10 h13
theorem BTab.lt {W : World} {p : Nat} (h : BTab W p) : p < W.heap.size := by
 obtain ⟨cs, hb, _⟩ := h
 exact (Array.getElem?_eq_some_iff.1 hb).1
theorem z321_size : Tryz.zeroCells193.size = 256 := by kernel_rfl
set_option maxRecDepth 100000 in
set_option maxHeartbeats 4000000 in
theorem buildB_calls (b g c : Nat) (v0 v1 v2 v3 : Value) (w : World) (h5 : Five w b v0 v1 v2 v3 (.slice (some ⟨g, 0, none⟩) 6 c)) (hr : StrRow w g blankL) (hg : g < w.heap.size) :
  Calls Tryz.prog 121 #[.pointer (some ⟨b, 0, none⟩)] w fun e w' => ∃ p, e = .returned (.iface 194 (.pointer (some ⟨p, 0, none⟩))) ∧ Below w.heap.size w w' ∧ w.heap.size ≤ p ∧ BTab w' p := by
 have hu247 := Tryz.underlying131
 have r0 : w.cell? ⟨g, 0, none⟩ = some (.string ⟨#[9]⟩) := hr 0 (by decide)
 have r1 : w.cell? ⟨g, 1, none⟩ = some (.string ⟨#[32]⟩) := hr 1 (by decide)
 have r2 : w.cell? ⟨g, 2, none⟩ = some (.string ⟨#[10]⟩) := hr 2 (by decide)
 have r3 : w.cell? ⟨g, 3, none⟩ = some (.string ⟨#[32]⟩) := hr 3 (by decide)
 have r4 : w.cell? ⟨g, 4, none⟩ = some (.string ⟨#[13]⟩) := hr 4 (by decide)
 have r5 : w.cell? ⟨g, 5, none⟩ = some (.string ⟨#[32]⟩) := hr 5 (by decide)
 have c4 : w.cell? ⟨b, 2 + 2, none⟩ = some (.slice (some ⟨g, 0, none⟩) 6 c) := (h5.cell 4).trans rfl
 have c4' : w.cell? ⟨b, 4, none⟩ = some (.slice (some ⟨g, 0, none⟩) 6 c) := c4
 have HR := Aside0.mk hr
 have H5 := Aside0.mk h5
 clear hr h5
 have hst := run_storeCells_new (P := Tryz.prog) w 193 Tryz.zeroCells193 Tryz.zeroCells193 (by kernel_rfl) rfl (by kernel_rfl)
 go_enter Tryz.func121, Tryz.ntmps121
 go_wp2_with fail
 refine wp_loop_rounds 4 ?_
 rw [rounds_succ]
 go_wp2
 rw [rounds_succ]
 go_wp2
 rw [rounds_succ]
 go_wp2
 rw [rounds_succ]
 go_wp2
 clear hst r0 r1 r2 r3 r4 r5 c4 c4'
 have HB0 := Aside0.mk ((Below.refl w.heap.size w).alloc (Nat.le_refl _) (.cells Tryz.zeroCells193 193))
 have HF0 : Aside0 (Filled (w.alloc (.cells Tryz.zeroCells193 193)) w.heap.size 0) := ⟨⟨_, World.alloc_heap_new w _, z321_size, fun i hi => absurd hi (by omega)⟩⟩
 generalize w.alloc (.cells Tryz.zeroCells193 193) = W0 at *
 go_loopw [61] (fun v61 wr => ∃ (k : Nat), v61 = .int .i64 k ∧ k ≤ 256 ∧ Aside0 (Filled wr w.heap.size k) ∧ Aside0 (Below w.heap.size w wr)) (fun v61 _ => 256 - (intOf v61).toNat)
 case atStart => exact ⟨0, rfl, by omega, HF0, HB0⟩
 case round =>
  obtain ⟨k, rfl, hk, HF, HB⟩ := hrel
  by_cases hlt : k < 256
  ·obtain ⟨v, hv⟩ := HF.out.cell hlt
   have hf := HF.out.frozen k
   have hw : IntKind.u8.wrap (k : Int) = (k : Int) := by
    have h256 : (k : Int) % 256 = k := by omega
    exact h256
   have HF1 := Aside0.mk (HF.out.put hlt)
   have HB1 := Aside0.mk (HB.out.setCell (p := ⟨w.heap.size, k, none⟩) (Nat.le_refl _) (.int .u8 (k : Int)))
   go_wp2
   go_roundw
   case rel => exact ⟨k + 1, by go_num, by omega, HF1, HB1⟩
   case measure => simp [intOf]; omega
  ·obtain rfl : k = 256 := by omega
   have hbt : BTab wr w.heap.size := by
    obtain ⟨cs, h1, h2, h3⟩ := HF.out.blk
    exact ⟨cs, h1, h2, fun i hi _ _ _ => h3 i hi⟩
   have hr := HR.out.below HB.out hg
   have r0 : wr.cell? ⟨g, 0, none⟩ = some (.string ⟨#[9]⟩) := hr 0 (by decide)
   have r1 : wr.cell? ⟨g, 1, none⟩ = some (.string ⟨#[32]⟩) := hr 1 (by decide)
   have r2 : wr.cell? ⟨g, 2, none⟩ = some (.string ⟨#[10]⟩) := hr 2 (by decide)
   have r3 : wr.cell? ⟨g, 3, none⟩ = some (.string ⟨#[32]⟩) := hr 3 (by decide)
   have r4 : wr.cell? ⟨g, 4, none⟩ = some (.string ⟨#[13]⟩) := hr 4 (by decide)
   have r5 : wr.cell? ⟨g, 5, none⟩ = some (.string ⟨#[32]⟩) := hr 5 (by decide)
   obtain ⟨x9, h9⟩ := hbt.cell (i := 9) (by decide)
   obtain ⟨x10, h10⟩ := hbt.cell (i := 10) (by decide)
   obtain ⟨x13, h13⟩ := hbt.cell (i := 13) (by decide)
   have f9 := hbt.frozen 9
   have f10 := hbt.frozen 10
   have f13 := hbt.frozen 13
   have hne : ¬ g = w.heap.size := by omega
   have y13 : ((⟨#[13]⟩ : ByteArray)[0]'(by decide)).toNat = 13 := rfl
   have y10 : ((⟨#[10]⟩ : ByteArray)[0]'(by decide)).toNat = 10 := rfl
   have y9 : ((⟨#[9]⟩ : ByteArray)[0]'(by decide)).toNat = 9 := rfl
   have y32 : ((⟨#[32]⟩ : ByteArray)[0]'(by decide)).toNat = 32 := rfl
   have HT := Aside0.mk hbt
   clear hr hbt HF
   go_wp2_with fail
   refine wp_loop_rounds 4 ?_
   rw [rounds_succ]
   go_wp2
   rw [rounds_succ]
   go_wp2
   rw [rounds_succ]
   go_wp2
   rw [rounds_succ]
   go_wp2
   go_ret
   refine ⟨w.heap.size, rfl, ((HB.out.setCell (p := ⟨w.heap.size, 13, none⟩) (Nat.le_refl _) _).setCell (p := ⟨w.heap.size, 10, none⟩) (Nat.le_refl _) _).setCell (p := ⟨w.heap.size, 9, none⟩) (Nat.le_refl _) _, Nat.le_refl _, ?_⟩
   exact ((HT.out.put (by simp) _).put (by simp) _).put (by simp) _
theorem ne_of_type {W : World} {g b : Nat} {cs ds : Array Value} {t u : TypeId} {f f' : Nat × Nat} (h : W.heap[g]? = some (.cells cs t f)) (h' : W.heap[b]? = some (.cells ds u f')) (ht : t ≠ u) : g ≠ b := by
 rintro rfl
 have := h.symm.trans h'
 injection this with this
 injection this with _ h5 _
 exact ht h5
structure Tabs (ty : TypeId) (l : List Bs) (T : World → Nat → Prop) : Prop where
 set : ∀ {W : World} {p b : Nat} {v0 v1 v2 v3 v4 : Value} (i : Nat) (y : Value), T W p → Five W b v0 v1 v2 v3 v4 → T (W.setCell ⟨b, i, none⟩ y) p
 drew : ∀ {W : World} {p : Nat}, T W p → T W.drew p
 below : ∀ {W W' : World} {p : Nat}, T W p → Below W.heap.size W W' → T W' p
 build : ∀ (b g c : Nat) (v0 v1 v2 v3 : Value) (w : World), Five w b v0 v1 v2 v3 (.slice (some ⟨g, 0, none⟩) l.length c) → StrRow w g l → g < w.heap.size →
  Calls Tryz.prog 121 #[.pointer (some ⟨b, 0, none⟩)] w fun e w' => ∃ p, e = .returned (.iface ty (.pointer (some ⟨p, 0, none⟩))) ∧ Below w.heap.size w w' ∧ w.heap.size ≤ p ∧ T w' p
def Built (ty : TypeId) (T : World → Nat → Prop) (W : World) (b : Nat) : Prop := ∃ p v4, Five W b (.int .u32 1) (.int .i32 0) (.int .u32 0) (.iface ty (.pointer (some ⟨p, 0, none⟩))) v4 ∧ T W p
def Rep (ty : TypeId) (l : List Bs) (T : World → Nat → Prop) (W : World) (b : Nat) : Prop := Fresh W b l ∨ Built ty T W b
set_option maxRecDepth 100000 in
set_option maxHeartbeats 4000000 in
theorem once_any {ty : TypeId} {l : List Bs} {T : World → Nat → Prop} (hT : Tabs ty l T) (b g c : Nat) (v0 v1 v2 v3 : Value) (w : World) (h5 : Five w b v0 v1 v2 v3 (.slice (some ⟨g, 0, none⟩) l.length c)) (hr : StrRow w g l) (hg : g < w.heap.size) :
  Calls Tryz.prog 81 #[.pointer (some ⟨b, 0, none⟩)] w fun e w' => e = .returned (.tuple #[]) ∧ ∃ p, Five w' b v0 v1 v2 (.iface ty (.pointer (some ⟨p, 0, none⟩))) (.slice none 0 0) ∧ T w' p ∧ Off (fun k => k = b) w w' := by
 have H5 := Aside0.mk h5
 have HT := Aside0.mk hT
 have HC := Aside0.mk (hT.build b g c v0 v1 v2 v3 w h5 hr hg)
 clear h5 hr hg hT
 go_enter Tryz.func81, Tryz.ntmps81
 go_wp2_with fail
 refine HC.out.mono ?_
 rintro e w1 ⟨p, rfl, hb1, hp, hR⟩
 have k5 := H5.out.below hb1
 have k6 : Five (w1.setCell ⟨b, 3, none⟩ (.iface ty (.pointer (some ⟨p, 0, none⟩)))) b v0 v1 v2 (.iface ty (.pointer (some ⟨p, 0, none⟩))) (.slice (some ⟨g, 0, none⟩) l.length c) := cells_set k5 3 _
 have k7 : Five ((w1.setCell ⟨b, 3, none⟩ (.iface ty (.pointer (some ⟨p, 0, none⟩)))).setCell ⟨b, 4, none⟩ (.slice none 0 0)) b v0 v1 v2 (.iface ty (.pointer (some ⟨p, 0, none⟩))) (.slice none 0 0) := cells_set k6 4 _
 have c3 : w1.cell? ⟨b, 3, none⟩ = some v3 := (k5.cell 3).trans rfl
 have f3 := k5.frozen 3
 have c4 : (w1.setCell ⟨b, 3, none⟩ (.iface ty (.pointer (some ⟨p, 0, none⟩)))).cell? ⟨b, 4, none⟩ = some (.slice (some ⟨g, 0, none⟩) l.length c) := (k6.cell 4).trans rfl
 have f4 := k6.frozen 4
 have R2 := HT.out.set 4 (.slice none 0 0) (HT.out.set 3 (.iface ty (.pointer (some ⟨p, 0, none⟩))) hR k5) k6
 have B2 : Off (fun k => k = b) w ((w1.setCell ⟨b, 3, none⟩ (.iface ty (.pointer (some ⟨p, 0, none⟩)))).setCell ⟨b, 4, none⟩ (.slice none 0 0)) := ((Off.of_below (S := fun k => k = b) hb1).set ⟨b, 3, none⟩ _ (.inl rfl)).set ⟨b, 4, none⟩ _ (.inl rfl)
 have HF := Aside0.mk (And.intro k7 (And.intro R2 B2))
 clear k5 k6 k7 R2 B2 hR hb1
 go_wp2
 exact bodyPost_end (results_none rfl _ _ _) rfl ⟨rfl, p, HF.out⟩
theorem do_done (b : Nat) (v1 v2 v3 v4 : Value) (f : Value) (w : World) (h5 : Five w b (.int .u32 1) v1 v2 v3 v4) :
  Calls Tryz.prog 80 #[.pointer (some ⟨b, 0, none⟩), f] w fun e w' => e = .returned (.tuple #[]) ∧ w = w' := by
 have h0 : w.cell? ⟨b, 0, none⟩ = some (.int .u32 1) := (h5.cell 0).trans rfl
 have hl := run_call_load (P := Tryz.prog) Tryz.func151 (by kernel_rfl) (by kernel_rfl) (by kernel_rfl) .u32 (by kernel_rfl) h0
 have hnot : ∀ (x : Bool) (w : World), (Op.unary .not (.bool x)).run Tryz.prog w = .ok (.bool (!x)) w := fun _ _ => rfl
 clear h5
 go_enter Tryz.func80, Tryz.ntmps80
 go_wp2_with (go_at_call 119; go_in)
 go_end0
 exact ⟨rfl, rfl⟩
theorem do_rep {ty : TypeId} {l : List Bs} {T : World → Nat → Prop} (hT : Tabs ty l T) (b : Nat) (w : World) (h : Rep ty l T w b) :
  Calls Tryz.prog 80 #[.pointer (some ⟨b, 0, none⟩), .func (.func 81) #[.pointer (some ⟨b, 0, none⟩)] #[]] w fun e w' => e = .returned (.tuple #[]) ∧ Built ty T w' b ∧ Off (fun k => k = b) w w' := by
 rcases h with ⟨g, c, h5, hr, ⟨cs, hcs⟩, hgb⟩ | ⟨p, v4, h5, hp⟩
 ·have h51 : Five (w.setCell ⟨b, 1, none⟩ (.int .i32 1)) b (.int .u32 0) (.int .i32 1) (.int .u32 0) .nilIface (.slice (some ⟨g, 0, none⟩) l.length c) := cells_set h5 1 _
  have hr1 : StrRow (w.setCell ⟨b, 1, none⟩ (.int .i32 1)) g l := hr.same (Below.heap_setCell _ _ _ _ (show g ≠ b from hgb))
  refine (do_first b (.int .u32 0) .nilIface (.slice (some ⟨g, 0, none⟩) l.length c) w h5 _ (fun w' h => by obtain ⟨p, h1, h2⟩ := h; exact ⟨_, _, h1⟩) (once_any hT b g c _ _ _ _ _ h51 hr1 (by rw [Deep.nblk_setCell]; exact (Array.getElem?_eq_some_iff.1 hcs).1))).mono ?_
  rintro e w' ⟨rfl, w1, ⟨p, k5, kR, kB⟩, rfl⟩
  have m1 : Five (w1.drew.setCell ⟨b, 0, none⟩ (.int .u32 1)) b (.int .u32 1) (.int .i32 1) (.int .u32 0) (.iface ty (.pointer (some ⟨p, 0, none⟩))) (.slice none 0 0) := cells_set (W := w1.drew) k5 0 _
  have m2 : Five ((w1.drew.setCell ⟨b, 0, none⟩ (.int .u32 1)).setCell ⟨b, 1, none⟩ (.int .i32 0)) b (.int .u32 1) (.int .i32 0) (.int .u32 0) (.iface ty (.pointer (some ⟨p, 0, none⟩))) (.slice none 0 0) := cells_set m1 1 _
  have R1 := hT.set 1 (.int .i32 0) (hT.set 0 (.int .u32 1) (hT.drew kR) (show Five w1.drew b _ _ _ _ _ from k5)) m1
  have B0 : Off (fun k => k = b) w (w.setCell ⟨b, 1, none⟩ (.int .i32 1)) := (Off.refl _ w).set _ _ (.inl rfl)
  have B1 : Off (fun k => k = b) w w1 := B0.trans kB
  have B2 : Off (fun k => k = b) w w1.drew := ⟨B1.os, B1.tape, B1.output, B1.size, B1.block⟩
  exact ⟨rfl, ⟨p, _, m2, R1⟩, (B2.set _ _ (.inl rfl)).set _ _ (.inl rfl)⟩
 ·refine (do_done b _ _ _ _ _ w h5).mono ?_
  rintro e w' ⟨rfl, rfl⟩
  exact ⟨rfl, ⟨p, v4, h5, hp⟩, Off.refl _ _⟩
theorem Fresh.below {W W' : World} {b : Nat} {l : List Bs} (h : Fresh W b l) (hb : Below W.heap.size W W') : Fresh W' b l := by
 obtain ⟨g, c, h5, hr, ⟨cs, hcs⟩, hgb⟩ := h
 have hg := (Array.getElem?_eq_some_iff.1 hcs).1
 exact ⟨g, c, h5.below hb, hr.below hb hg, ⟨cs, (hb.block g hg).trans hcs⟩, hgb⟩
theorem Rep.below {ty : TypeId} {l : List Bs} {T : World → Nat → Prop} (hT : Tabs ty l T) {W W' : World} {b : Nat} (h : Rep ty l T W b) (hb : Below W.heap.size W W') : Rep ty l T W' b := by
 rcases h with h | ⟨p, v4, h5, hp⟩
 ·exact .inl (h.below hb)
 ·exact .inr ⟨p, v4, h5.below hb, hT.below hp hb⟩
end Go.Proofs.YtadgeghipimfiaaGreatDoor.X
end
section
namespace Go.Proofs.YtadgeghipimfiaaGreatDoor.X
open Go.RowKit Go.Shelf Go.Proofs.YtadgeghipimfiaaGreatDoorW.PrintWords Go.Proofs.YtadgeghipimfiaaGreatDoor.F
set_option linter.unusedVariables false
set_option linter.unusedSimpArgs false
theorem alloc_set (u : World) (o o' : Obj) : ({ (u.alloc o) with heap := (u.alloc o).heap.setIfInBounds u.heap.size o' } : World) = u.alloc o' := by
 have : (u.alloc o).heap.setIfInBounds u.heap.size o' = (u.alloc o').heap := by
  show (u.heap.push o).setIfInBounds u.heap.size o' = u.heap.push o'
  apply Array.ext'
  simp
 rw [this]
 rfl
section
variable {P : Program} (t kt et : TypeId) (hm : P.underlying t = some (.map kt et)) (hk : P.underlying kt = some .string)
include hm hk
theorem run_put_new (w : World) (b : Nat) (es : Array MapEntry) (c : Nat) (k : ByteArray) (v : Value) (hb : w.heap[b]? = some (.map es c)) (hf : Instr.findNow .string (.string k) es.toList 0 = some none) :
  (Instr.mapUpdate t (.map (some b)) (.string k) v).run P w = .ok () { w with heap := w.heap.setIfInBounds b (.map (es.push { key := .string k, val := v, born := c }) (c + 1)) } := by
 have h2 : (Instr.checkKey false 10000 kt (.string k)).run P w = .ok () w := MapKept.run_checkKey (k := .string k) hk (by simp [MapKept.IsKey]) false 9999
 simp [Instr.mapUpdate, run_underlying hm, MapKept.run_getObj_map hb, h2, MapKept.run_findKey hk hf, MapKept.run_setObj_map _ hb, Result.andThen]
theorem run_put_last (u : World) (es : Array MapEntry) (c : Nat) (k : ByteArray) (v : Value) (hf : Instr.findNow .string (.string k) es.toList 0 = some none) :
  (Instr.mapUpdate t (.map (some u.heap.size)) (.string k) v).run P (u.alloc (.map es c)) = .ok () (u.alloc (.map (es.push { key := .string k, val := v, born := c }) (c + 1))) := by
 rw [run_put_new t kt et hm hk _ u.heap.size es c k v (World.alloc_heap_new u _) hf, alloc_set]
theorem run_get_hit (w : World) (b : Nat) (es : Array MapEntry) (c : Nat) (k : ByteArray) (i : Nat) (v : Value) (hb : w.heap[b]? = some (.map es c)) (hf : Instr.findNow .string (.string k) es.toList 0 = some (some (i, v))) :
  (Instr.lookup t (.map (some b)) (.string k) true).run P w = .ok (.tuple #[v, .bool true]) w := by
 have h2 : (Instr.checkKey es.isEmpty 10000 kt (.string k)).run P w = .ok () w := MapKept.run_checkKey (k := .string k) hk (by simp [MapKept.IsKey]) es.isEmpty 9999
 simp [Instr.lookup, run_underlying hm, MapKept.run_getObj_map hb, h2, MapKept.run_findKey hk hf, Result.andThen]
theorem run_get_miss (w : World) (b : Nat) (es : Array MapEntry) (c : Nat) (k : ByteArray) (z : Value) (hz : (zeroValue et).run P w = .ok z w) (hb : w.heap[b]? = some (.map es c)) (hf : Instr.findNow .string (.string k) es.toList 0 = some none) :
  (Instr.lookup t (.map (some b)) (.string k) true).run P w = .ok (.tuple #[z, .bool false]) w := by
 have h2 : (Instr.checkKey es.isEmpty 10000 kt (.string k)).run P w = .ok () w := MapKept.run_checkKey (k := .string k) hk (by simp [MapKept.IsKey]) es.isEmpty 9999
 simp [Instr.lookup, run_underlying hm, MapKept.run_getObj_map hb, h2, MapKept.run_findKey hk hf, Result.andThen, hz]
end
end Go.Proofs.YtadgeghipimfiaaGreatDoor.X
end
section
namespace Go.Proofs.YtadgeghipimfiaaGreatDoor.X
open Go.RowKit Go.Shelf Go.Proofs.YtadgeghipimfiaaGreatDoorW.PrintWords Go.Proofs.YtadgeghipimfiaaGreatDoor.F Go.Proofs.YtadgeghipimfiaaGreatDoor.Pg Go.Proofs.YtadgeghipimfiaaGreatDoor.Z
set_option linter.unusedVariables false
set_option linter.unusedSimpArgs false
theorem nm_put0 (w : World) : (Instr.mapUpdate 238 (.map (some w.heap.size)) (.string ⟨#[108, 116]⟩) (.int .i32 60)).run Tryz.prog (w.alloc (.map #[] 0)) = .ok () (w.alloc (.map #[{ key := .string ⟨#[108, 116]⟩, val := .int .i32 60, born := 0 }] 1)) :=
 run_put_last 238 9 21 Tryz.underlying238 Tryz.underlying9 w _ 0 _ _ (by kernel_rfl)
theorem nm_put1 (w : World) : (Instr.mapUpdate 238 (.map (some w.heap.size)) (.string ⟨#[103, 116]⟩) (.int .i32 62)).run Tryz.prog (w.alloc (.map #[{ key := .string ⟨#[108, 116]⟩, val := .int .i32 60, born := 0 }] 1)) = .ok () (w.alloc (.map #[{ key := .string ⟨#[108, 116]⟩, val := .int .i32 60, born := 0 }, { key := .string ⟨#[103, 116]⟩, val := .int .i32 62, born := 1 }] 2)) :=
 run_put_last 238 9 21 Tryz.underlying238 Tryz.underlying9 w _ 1 _ _ (by kernel_rfl)
theorem nm_put2 (w : World) : (Instr.mapUpdate 238 (.map (some w.heap.size)) (.string ⟨#[97, 109, 112]⟩) (.int .i32 38)).run Tryz.prog (w.alloc (.map #[{ key := .string ⟨#[108, 116]⟩, val := .int .i32 60, born := 0 }, { key := .string ⟨#[103, 116]⟩, val := .int .i32 62, born := 1 }] 2)) = .ok () (w.alloc (.map #[{ key := .string ⟨#[108, 116]⟩, val := .int .i32 60, born := 0 }, { key := .string ⟨#[103, 116]⟩, val := .int .i32 62, born := 1 }, { key := .string ⟨#[97, 109, 112]⟩, val := .int .i32 38, born := 2 }] 3)) :=
 run_put_last 238 9 21 Tryz.underlying238 Tryz.underlying9 w _ 2 _ _ (by kernel_rfl)
theorem nm_put3 (w : World) : (Instr.mapUpdate 238 (.map (some w.heap.size)) (.string ⟨#[113, 117, 111, 116]⟩) (.int .i32 34)).run Tryz.prog (w.alloc (.map #[{ key := .string ⟨#[108, 116]⟩, val := .int .i32 60, born := 0 }, { key := .string ⟨#[103, 116]⟩, val := .int .i32 62, born := 1 }, { key := .string ⟨#[97, 109, 112]⟩, val := .int .i32 38, born := 2 }] 3)) = .ok () (w.alloc (.map #[{ key := .string ⟨#[108, 116]⟩, val := .int .i32 60, born := 0 }, { key := .string ⟨#[103, 116]⟩, val := .int .i32 62, born := 1 }, { key := .string ⟨#[97, 109, 112]⟩, val := .int .i32 38, born := 2 }, { key := .string ⟨#[113, 117, 111, 116]⟩, val := .int .i32 34, born := 3 }] 4)) :=
 run_put_last 238 9 21 Tryz.underlying238 Tryz.underlying9 w _ 3 _ _ (by kernel_rfl)
theorem nm_put4 (w : World) : (Instr.mapUpdate 238 (.map (some w.heap.size)) (.string ⟨#[97, 112, 111, 115]⟩) (.int .i32 39)).run Tryz.prog (w.alloc (.map #[{ key := .string ⟨#[108, 116]⟩, val := .int .i32 60, born := 0 }, { key := .string ⟨#[103, 116]⟩, val := .int .i32 62, born := 1 }, { key := .string ⟨#[97, 109, 112]⟩, val := .int .i32 38, born := 2 }, { key := .string ⟨#[113, 117, 111, 116]⟩, val := .int .i32 34, born := 3 }] 4)) = .ok () (w.alloc (.map #[{ key := .string ⟨#[108, 116]⟩, val := .int .i32 60, born := 0 }, { key := .string ⟨#[103, 116]⟩, val := .int .i32 62, born := 1 }, { key := .string ⟨#[97, 109, 112]⟩, val := .int .i32 38, born := 2 }, { key := .string ⟨#[113, 117, 111, 116]⟩, val := .int .i32 34, born := 3 }, { key := .string ⟨#[97, 112, 111, 115]⟩, val := .int .i32 39, born := 4 }] 5)) :=
 run_put_last 238 9 21 Tryz.underlying238 Tryz.underlying9 w _ 4 _ _ (by kernel_rfl)
abbrev nmEs : Array MapEntry := #[{ key := .string ⟨#[108, 116]⟩, val := .int .i32 60, born := 0 }, { key := .string ⟨#[103, 116]⟩, val := .int .i32 62, born := 1 }, { key := .string ⟨#[97, 109, 112]⟩, val := .int .i32 38, born := 2 }, { key := .string ⟨#[113, 117, 111, 116]⟩, val := .int .i32 34, born := 3 }, { key := .string ⟨#[97, 112, 111, 115]⟩, val := .int .i32 39, born := 4 }]
set_option maxRecDepth 100000 in
theorem named_lt (w : World) : Calls Tryz.prog 167 #[.string (M [108, 116])] w fun e w' => e = .returned (.string (M [60])) ∧ Below w.heap.size w w' := by
 have hmm := @run_makeMap Tryz.prog
 have e0 := nm_put0 w
 have e1 := nm_put1 w
 have e2 := nm_put2 w
 have e3 := nm_put3 w
 have e4 := nm_put4 w
 have eg : (Instr.lookup 238 (.map (some w.heap.size)) (.string (M [108, 116])) true).run Tryz.prog (w.alloc (.map nmEs 5)) = .ok (.tuple #[.int .i32 60, .bool true]) (w.alloc (.map nmEs 5)) :=
  run_get_hit 238 9 21 Tryz.underlying238 Tryz.underlying9 _ _ nmEs 5 _ 0 _ (World.alloc_heap_new w _) (by kernel_rfl)
 have ec : ∀ W, (convert 21 9 (.int .i32 60)).run Tryz.prog W = .ok (.string (M [60])) W := fun W => by kernel_rfl
 go_enter Tryz.func167, Tryz.ntmps167
 go_wp2
 go_ret
 exact ⟨rfl, (Below.refl _ w).alloc (Nat.le_refl _) _⟩
set_option maxRecDepth 100000 in
theorem named_gt (w : World) : Calls Tryz.prog 167 #[.string (M [103, 116])] w fun e w' => e = .returned (.string (M [62])) ∧ Below w.heap.size w w' := by
 have hmm := @run_makeMap Tryz.prog
 have e0 := nm_put0 w
 have e1 := nm_put1 w
 have e2 := nm_put2 w
 have e3 := nm_put3 w
 have e4 := nm_put4 w
 have eg : (Instr.lookup 238 (.map (some w.heap.size)) (.string (M [103, 116])) true).run Tryz.prog (w.alloc (.map nmEs 5)) = .ok (.tuple #[.int .i32 62, .bool true]) (w.alloc (.map nmEs 5)) :=
  run_get_hit 238 9 21 Tryz.underlying238 Tryz.underlying9 _ _ nmEs 5 _ 1 _ (World.alloc_heap_new w _) (by kernel_rfl)
 have ec : ∀ W, (convert 21 9 (.int .i32 62)).run Tryz.prog W = .ok (.string (M [62])) W := fun W => by kernel_rfl
 go_enter Tryz.func167, Tryz.ntmps167
 go_wp2
 go_ret
 exact ⟨rfl, (Below.refl _ w).alloc (Nat.le_refl _) _⟩
set_option maxRecDepth 100000 in
theorem named_amp (w : World) : Calls Tryz.prog 167 #[.string (M [97, 109, 112])] w fun e w' => e = .returned (.string (M [38])) ∧ Below w.heap.size w w' := by
 have hmm := @run_makeMap Tryz.prog
 have e0 := nm_put0 w
 have e1 := nm_put1 w
 have e2 := nm_put2 w
 have e3 := nm_put3 w
 have e4 := nm_put4 w
 have eg : (Instr.lookup 238 (.map (some w.heap.size)) (.string (M [97, 109, 112])) true).run Tryz.prog (w.alloc (.map nmEs 5)) = .ok (.tuple #[.int .i32 38, .bool true]) (w.alloc (.map nmEs 5)) :=
  run_get_hit 238 9 21 Tryz.underlying238 Tryz.underlying9 _ _ nmEs 5 _ 2 _ (World.alloc_heap_new w _) (by kernel_rfl)
 have ec : ∀ W, (convert 21 9 (.int .i32 38)).run Tryz.prog W = .ok (.string (M [38])) W := fun W => by kernel_rfl
 go_enter Tryz.func167, Tryz.ntmps167
 go_wp2
 go_ret
 exact ⟨rfl, (Below.refl _ w).alloc (Nat.le_refl _) _⟩
set_option maxRecDepth 100000 in
theorem named_quot (w : World) : Calls Tryz.prog 167 #[.string (M [113, 117, 111, 116])] w fun e w' => e = .returned (.string (M [34])) ∧ Below w.heap.size w w' := by
 have hmm := @run_makeMap Tryz.prog
 have e0 := nm_put0 w
 have e1 := nm_put1 w
 have e2 := nm_put2 w
 have e3 := nm_put3 w
 have e4 := nm_put4 w
 have eg : (Instr.lookup 238 (.map (some w.heap.size)) (.string (M [113, 117, 111, 116])) true).run Tryz.prog (w.alloc (.map nmEs 5)) = .ok (.tuple #[.int .i32 34, .bool true]) (w.alloc (.map nmEs 5)) :=
  run_get_hit 238 9 21 Tryz.underlying238 Tryz.underlying9 _ _ nmEs 5 _ 3 _ (World.alloc_heap_new w _) (by kernel_rfl)
 have ec : ∀ W, (convert 21 9 (.int .i32 34)).run Tryz.prog W = .ok (.string (M [34])) W := fun W => by kernel_rfl
 go_enter Tryz.func167, Tryz.ntmps167
 go_wp2
 go_ret
 exact ⟨rfl, (Below.refl _ w).alloc (Nat.le_refl _) _⟩
end Go.Proofs.YtadgeghipimfiaaGreatDoor.X
end
