/- Plain law, first part: texts as lists of bytes; what the printed words say of them; a code point at the head of a text. -/
import Derived.Test.YtdecjlkfpbgkgaaGreatDoorWWords
namespace Go.Proofs.YtdecjlkfpbgkgaaGreatDoor.U
open Go.RowKit Go.Lib Go.Proofs.YtdecjlkfpbgkgaaGreatDoorW.PrintWords

abbrev Bs := List UInt8
/-- A text out of its bytes. -/
def B (l : Bs) : ByteArray := ByteArray.mk (Array.mk l)
theorem B_eta (s : ByteArray) : ∃ l, s = B l := ⟨s.data.toList, by cases s with | mk d => cases d; rfl⟩
theorem B_lit (l : Bs) : (ByteArray.mk (List.toArray l)) = B l := rfl
theorem B_size (l : Bs) : (B l).size = l.length := rfl
theorem B_data (l : Bs) : (B l).data.toList = l := rfl
theorem toList_data (s : ByteArray) : s.toList = s.data.toList := by
  have h : ∀ (n i : Nat) (r : Bs), s.size - i = n → ByteArray.toList.loop s i r = r.reverse ++ s.data.toList.drop i := by
    intro n
    induction n with
    | zero =>
      intro i r hn
      unfold ByteArray.toList.loop
      rw [if_neg (by omega), List.drop_eq_nil_of_le (by show s.data.size ≤ i; have : s.size = s.data.size := rfl; omega)]
      simp
    | succ n ih =>
      intro i r hn
      have hi : i < s.data.toList.length := by show i < s.data.size; have : s.size = s.data.size := rfl; omega
      unfold ByteArray.toList.loop
      rw [if_pos (by omega), ih (i + 1) _ (by omega), List.drop_eq_getElem_cons hi]
      have hg : s.get! i = s.data.toList[i] := by
        show s.data[i]! = _
        rw [getElem!_pos s.data i (by simpa using hi)]
        simp
      rw [hg]
      simp
  have := h (s.size - 0) 0 [] rfl
  simpa [ByteArray.toList] using this
theorem B_toList (l : Bs) : (B l).toList = l := by rw [toList_data]; rfl
theorem B_inj {a b : Bs} (h : B a = B b) : a = b := by cases h; rfl
theorem B_extract (l : Bs) (a b : Nat) : (B l).extract a b = B ((l.take b).drop a) := by
  have : ((B l).extract a b).data = (B ((l.take b).drop a)).data := by
    rw [ByteArray.data_extract]
    apply Array.ext'
    rw [Array.toList_extract, List.extract_eq_drop_take']
    rfl
  cases h1 : (B l).extract a b
  rw [h1] at this
  simp only at this
  rw [this]
theorem B_append (a b : Bs) : B a ++ B b = B (a ++ b) := by
  have : (B a ++ B b).data = (B (a ++ b)).data := by
    rw [ByteArray.data_append]
    apply Array.ext'
    simp [B]
  cases h1 : B a ++ B b
  rw [h1] at this
  simp only at this
  rw [this]
theorem B_bt (l : Bs) (i : Nat) (h : i < l.length) : bt (B l) (i : Int) = (l[i].toNat : Int) := by
  unfold bt
  rw [dif_pos (by simpa [B_size] using h)]
  rfl
theorem B_get (l : Bs) (i : Nat) : ((B l).get! i).toNat = (l.getD i 0).toNat := by
  show (((Array.mk l)[i]!) : UInt8).toNat = _
  by_cases h : i < l.length
  · rw [getElem!_pos (Array.mk l) i (by simpa using h), List.getD_eq_getElem?_getD, List.getElem?_eq_getElem h]; rfl
  · rw [getElem!_neg (Array.mk l) i (by simpa using h), List.getD_eq_getElem?_getD, List.getElem?_eq_none (by omega)]; rfl

theorem w64 {x : Int} (h0 : -9223372036854775808 ≤ x) (h1 : x < 9223372036854775808) : wrap64 x = x := by unfold wrap64; omega

/-! ### the rounds -/
theorem Ev.ite_pos {α : Type} {c : Prop} [Decidable c] {g f : Nat → Option α} {r : α} (hc : c) (h : Ev g r) : Ev (fun k => if c then g k else f k) r := by
  simpa [hc] using h
theorem Ev.ite_neg {α : Type} {c : Prop} [Decidable c] {g f : Nat → Option α} {r : α} (hc : ¬ c) (h : Ev f r) : Ev (fun k => if c then g k else f k) r := by
  simpa [hc] using h
theorem Ev.some_bind {α β : Type} {a : α} {f : Nat → α → Option β} {r : β} (h : Ev (fun k => f k a) r) : Ev (fun k => (some a).bind (f k)) r := h
end Go.Proofs.YtdecjlkfpbgkgaaGreatDoor.U
