/- Plain law for the prefixes, third part: the name at the head; a name without a colon, and nothing else. -/
import Derived.Test.YtidjihhklmfaiaaDoorV5
import Derived.Test.YtidjihhklmfaiaaDoorPx5
namespace Go.Proofs.YtidjihhklmfaiaaDoor.V
open Go.RowKit Go.Lib Go.Proofs.YtidjihhklmfaiaaDoorW.PrintWords Go.Proofs.YtidjihhklmfaiaaDoor.X Go.Proofs.YtidjihhklmfaiaaDoor.Px Go.Proofs.YtidjihhklmfaiaaDoor.U

theorem extract_tail (l : Bs) (n : Nat) : (B l).extract n (B l).size = B (l.drop n) := by rw [B_extract, B_size, List.take_length]
theorem extract_head (l : Bs) (n : Nat) : (B l).extract 0 n = B (l.take n) := by rw [B_extract, List.drop_zero]
theorem first_ok {l : Bs} (h : (firstL l).2 ≠ 0) : l ≠ [] ∧ ¬ bad l ∧ firstL l = (((decodeL l).1 : Int), ((decodeL l).2 : Int)) := by
  by_cases h0 : l = []
  · subst h0; exact absurd rfl h
  · by_cases hb : bad l
    · rw [firstL_bad hb] at h; exact absurd rfl h
    · exact ⟨h0, hb, firstL_good h0 hb⟩
theorem first_zero {l : Bs} (h0 : l ≠ []) (h : (firstL l).2 = 0) : bad l := by
  by_cases hb : bad l
  · exact hb
  · rw [firstL_good h0 hb] at h
    have := wid_pos l
    simp only at h
    omega
theorem decodeL_lt (l : Bs) : (decodeL l).1 < 4611686018427387904 := by
  rw [decodeL_eq]
  have l0 := nb_lt l 0; have l1 := nb_lt l 1; have l2 := nb_lt l 2; have l3 := nb_lt l 3
  unfold decodeN
  split
  · simp only; omega
  · split
    · split <;> simp only <;> omega
    · split
      · split <;> simp only <;> omega
      · split
        · split <;> simp only <;> omega
        · simp only; omega

/-! ### Plain lines -/
theorem val_ne (c d : UInt8) (h : c ≠ d) : ¬ ((c.toNat : Nat) : Int) = ((d.toNat : Nat) : Int) := fun hh => h (UInt8.toNat_inj.1 (by omega))
theorem bt_val (l : Bs) (i : Nat) (h : i < l.length) : bt (B l) (i : Int) = (l[i].toNat : Int) := B_bt l i h
/-! ### The name -/
def nameRes (s : Bs) (n : Nat) : ByteArray × ByteArray × Int := if n = 0 then ((⟨#[]⟩ : ByteArray), (⟨#[]⟩ : ByteArray), 51) else (B (s.take n), B (s.drop n), 0)
theorem rname_end (s : Bs) (hs : s.length < 4611686018427387904) (p : Nat) (hp : p ≤ s.length) :
    (if ((B (s.drop p)).size : Int) = ((B s).size : Int) then (some ((⟨#[]⟩ : ByteArray), (⟨#[]⟩ : ByteArray), (51 : Int))) else (if 0 ≤ (wrap64 (((B s).size : Int) - ((B (s.drop p)).size : Int))) then (if (wrap64 (((B s).size : Int) - ((B (s.drop p)).size : Int))) ≤ ((B s).size : Int) then (some ((B s).extract 0 ((wrap64 (((B s).size : Int) - ((B (s.drop p)).size : Int))) : Int).toNat, B (s.drop p), 0)) else (none)) else (none))) = some (nameRes s p) := by
  have e : ((B (s.drop p)).size : Int) = (s.length : Int) - p := by rw [B_size, List.length_drop]; omega
  have e2 : wrap64 ((s.length : Int) - ((s.length : Int) - p)) = (p : Int) := by rw [w64 (by omega) (by omega)]; omega
  rw [e, B_size, e2]
  unfold nameRes
  by_cases h : p = 0
  · subst h; rw [if_pos (by simp), if_pos rfl]
  · rw [if_neg (by omega), if_neg h, if_pos (by omega), if_pos (by omega), Int.toNat_natCast, extract_head]
theorem gname_end (s : Bs) (p : Nat) :
    (if (p : Int) = 0 then (some ((⟨#[]⟩ : ByteArray), (⟨#[]⟩ : ByteArray), (51 : Int))) else (some ((B s).extract 0 ((p : Int) : Int).toNat, (B s).extract ((p : Int) : Int).toNat (B s).size, 0))) = some (nameRes s p) := by
  unfold nameRes
  by_cases h : p = 0
  · subst h; rw [if_pos (show ((0 : Nat) : Int) = 0 from rfl), if_pos rfl]
  · rw [if_neg (by omega), if_neg h, Int.toNat_natCast, extract_head, extract_tail]
theorem nameN_step (d : Nat) (b : Bool) (l : Bs) (h0 : l ≠ []) : nameN (d + 1) b l = if goesB b l then (decodeL l).2 + nameN d false (l.drop (decodeL l).2) else 0 := by
  conv => lhs; unfold nameN
  rw [if_neg h0]
theorem rname_l0 (s : Bs) (hs : s.length < 4611686018427387904) : ∀ (d p : Nat), p ≤ s.length → s.length - p ≤ d → Ev (fun k => broadsheetref05_Name.l0 k (B s) (B (s.drop p))) (nameRes s (p + nameN d (decide (p = 0)) (s.drop p))) := by
  intro d
  induction d with
  | zero =>
    intro p hp hd
    refine Ev.step (fun k => (show broadsheetref05_Name.l0 (k + 1) (B s) (B (s.drop p)) = _ from by rw [broadsheetref05_Name.l0])) ?_
    rw [rname_end s hs p hp]
    simp only [if_neg (show ¬ ((B (s.drop p)).size : Int) > 0 by rw [B_size, List.length_drop]; omega)]
    exact Ev.now _
  | succ d ih =>
    intro p hp hd
    refine Ev.step (fun k => (show broadsheetref05_Name.l0 (k + 1) (B s) (B (s.drop p)) = _ from by rw [broadsheetref05_Name.l0])) ?_
    rw [rname_end s hs p hp]
    by_cases h : p < s.length
    · have h0 : s.drop p ≠ [] := by simp; omega
      rw [nameN_step _ _ _ h0]
      simp only [if_pos (show ((B (s.drop p)).size : Int) > 0 by rw [B_size, List.length_drop]; omega)]
      refine Ev.bind (first_ev _) ?_
      by_cases hz : (firstL (s.drop p)).2 = 0
      · have hg : goesB (decide (p = 0)) (s.drop p) = false := by unfold goesB; simp [hz]
        simp only [if_pos hz, hg, Bool.false_eq_true, if_false]
        exact Ev.now _
      · obtain ⟨_, hb, e⟩ := first_ok hz
        have hw := wid_pos (s.drop p)
        have hl := wid_le _ h0
        rw [List.length_drop] at hl
        simp only [if_neg hz]
        refine Ev.bind (rpart_ev _) ?_
        by_cases hpart : partB (firstL (s.drop p)).1 = true
        · simp only [if_pos hpart]
          have next : Ev (fun k => if 0 ≤ (firstL (s.drop p)).2 then (if (firstL (s.drop p)).2 ≤ ((B (s.drop p)).size : Int) then (broadsheetref05_Name.l0 k (B s) ((B (s.drop p)).extract ((firstL (s.drop p)).2 : Int).toNat (B (s.drop p)).size)) else (none)) else (none)) (nameRes s (p + ((decodeL (s.drop p)).2 + nameN d false ((s.drop p).drop (decodeL (s.drop p)).2)))) := by
            have q := ih (p + (decodeL (s.drop p)).2) (by omega) (by omega)
            rw [decide_eq_false (show ¬ p + (decodeL (s.drop p)).2 = 0 by omega), Nat.add_assoc] at q
            rw [e]
            simp only [if_pos (show (0 : Int) ≤ ((decodeL (s.drop p)).2 : Int) by omega), if_pos (show ((decodeL (s.drop p)).2 : Int) ≤ ((B (s.drop p)).size : Int) by rw [B_size, List.length_drop]; omega), Int.toNat_natCast, extract_tail, List.drop_drop]
            exact q
          by_cases h00 : p = 0
          · simp only [if_pos (show ((B (s.drop p)).size : Int) = ((B s).size : Int) by subst h00; rfl)]
            refine Ev.bind (rstart_ev _) ?_
            by_cases hst : startB (firstL (s.drop p)).1 = true
            · have hg : goesB (decide (p = 0)) (s.drop p) = true := by unfold goesB; simp [hz, hpart, hst]
              simp only [if_pos hst, hg, if_true]
              exact next
            · have hg : goesB (decide (p = 0)) (s.drop p) = false := by unfold goesB; simp [h00] at hst ⊢; simp [hst]
              simp only [if_neg hst, hg, Bool.false_eq_true, if_false]
              subst h00
              exact Ev.now _
          · have hg : goesB (decide (p = 0)) (s.drop p) = true := by unfold goesB; simp [hz, hpart, h00]
            simp only [if_neg (show ¬ ((B (s.drop p)).size : Int) = ((B s).size : Int) by rw [B_size, B_size, List.length_drop]; omega), hg, if_true]
            exact next
        · have hg : goesB (decide (p = 0)) (s.drop p) = false := by unfold goesB; simp [hpart]
          simp only [if_neg hpart, hg, Bool.false_eq_true, if_false]
          exact Ev.now _
    · have e : s.drop p = [] := List.drop_eq_nil_of_le (by omega)
      have en : nameN (d + 1) (decide (p = 0)) (s.drop p) = 0 := by rw [e]; rfl
      rw [en]
      simp only [if_neg (show ¬ ((B (s.drop p)).size : Int) > 0 by rw [B_size, List.length_drop]; omega)]
      exact Ev.now _
theorem rname_ev (s : Bs) (hs : s.length < 4611686018427387904) : Ev (fun k => broadsheetref05_Name.f k (B s)) (nameRes s (nameL s)) := by
  have := rname_l0 s hs s.length 0 (by omega) (by omega)
  rw [Nat.zero_add] at this
  unfold broadsheetref05_Name.f
  exact this
theorem gname_l0 (s : Bs) (hs : s.length < 4611686018427387904) : ∀ (d p : Nat), p ≤ s.length → s.length - p ≤ d → Ev (fun k => glyph_Name.l0 k (B s) (p : Int)) (nameRes s (p + nameN d (decide (p = 0)) (s.drop p))) := by
  intro d
  induction d with
  | zero =>
    intro p hp hd
    refine Ev.step (fun k => (show glyph_Name.l0 (k + 1) (B s) (p : Int) = _ from by rw [glyph_Name.l0])) ?_
    simp only [if_neg (show ¬ (p : Int) < ((B s).size : Int) by rw [B_size]; omega), if_pos (show (0 : Int) ≤ (p : Int) by omega), if_pos (show (p : Int) ≤ ((B s).size : Int) by rw [B_size]; omega)]
    rw [gname_end]
    exact Ev.now _
  | succ d ih =>
    intro p hp hd
    refine Ev.step (fun k => (show glyph_Name.l0 (k + 1) (B s) (p : Int) = _ from by rw [glyph_Name.l0])) ?_
    simp only [if_pos (show (0 : Int) ≤ (p : Int) by omega), if_pos (show (p : Int) ≤ ((B s).size : Int) by rw [B_size]; omega)]
    rw [gname_end]
    by_cases h : p < s.length
    · have h0 : s.drop p ≠ [] := by simp; omega
      rw [nameN_step _ _ _ h0]
      have hlt := decodeL_lt (s.drop p)
      have hwr : wrap64 (((decodeL (s.drop p)).1 : Nat) : Int) = ((decodeL (s.drop p)).1 : Int) := w64 (by omega) (by omega)
      have hw := wid_pos (s.drop p)
      have hl := wid_le _ h0
      rw [List.length_drop] at hl
      have hwp : wrap64 ((p : Int) + ((decodeL (s.drop p)).2 : Int)) = ((p + (decodeL (s.drop p)).2 : Nat) : Int) := by rw [w64 (by omega) (by omega)]; rfl
      simp only [if_pos (show (p : Int) < ((B s).size : Int) by rw [B_size]; omega), Int.toNat_natCast, extract_tail, utf8_DecodeRuneInString.f, Option.bind_some, decodeGo_eq _ h0, hwr, hwp, glyph_Part.f, glyph_Start.f]
      have q := ih (p + (decodeL (s.drop p)).2) (by omega) (by omega)
      rw [decide_eq_false (show ¬ p + (decodeL (s.drop p)).2 = 0 by omega), Nat.add_assoc] at q
      rw [List.drop_drop]
      have good : ¬ bad (s.drop p) → Ev (fun k => if partB ((decodeL (s.drop p)).1 : Int) = true then (if (p : Int) = 0 then (if startB ((decodeL (s.drop p)).1 : Int) = true then (glyph_Name.l0 k (B s) ((p + (decodeL (s.drop p)).2 : Nat) : Int)) else (some ((⟨#[]⟩ : ByteArray), (⟨#[]⟩ : ByteArray), 51))) else (glyph_Name.l0 k (B s) ((p + (decodeL (s.drop p)).2 : Nat) : Int))) else some (nameRes s p)) (nameRes s (p + if goesB (decide (p = 0)) (s.drop p) = true then (decodeL (s.drop p)).2 + nameN d false (s.drop (p + (decodeL (s.drop p)).2)) else 0)) := by
        intro hb
        have e := firstL_good h0 hb
        have hz : ¬ (firstL (s.drop p)).2 = 0 := by rw [e]; simp only; omega
        by_cases hpart : partB ((decodeL (s.drop p)).1 : Int) = true
        · simp only [if_pos hpart]
          by_cases h00 : p = 0
          · simp only [if_pos (show (p : Int) = 0 by omega)]
            by_cases hst : startB ((decodeL (s.drop p)).1 : Int) = true
            · have hg : goesB (decide (p = 0)) (s.drop p) = true := by unfold goesB; rw [decide_eq_true hz, e]; simp [hpart, hst]
              simp only [if_pos hst, hg, if_true]
              exact q
            · have hg : goesB (decide (p = 0)) (s.drop p) = false := by unfold goesB; rw [decide_eq_true hz, e, decide_eq_true h00]; simp [hst]
              simp only [if_neg hst, hg, Bool.false_eq_true, if_false]
              subst h00
              exact Ev.now _
          · have hg : goesB (decide (p = 0)) (s.drop p) = true := by unfold goesB; rw [decide_eq_true hz, e, decide_eq_false h00]; simp [hpart]
            simp only [if_neg (show ¬ (p : Int) = 0 by omega), hg, if_true]
            exact q
        · have hg : goesB (decide (p = 0)) (s.drop p) = false := by unfold goesB; rw [e]; simp [hpart]
          simp only [if_neg hpart, hg, Bool.false_eq_true, if_false]
          exact Ev.now _
      by_cases h1 : (decodeL (s.drop p)).1 = 65533
      · by_cases h2 : (decodeL (s.drop p)).2 = 1
        · have hg : goesB (decide (p = 0)) (s.drop p) = false := by unfold goesB; rw [firstL_bad ⟨h1, h2⟩]; simp
          simp only [if_pos (show ((decodeL (s.drop p)).1 : Int) = 65533 by omega), if_pos (show ((decodeL (s.drop p)).2 : Int) = 1 by omega), hg, Bool.false_eq_true, if_false]
          exact Ev.now _
        · simp only [if_pos (show ((decodeL (s.drop p)).1 : Int) = 65533 by omega), if_neg (show ¬ ((decodeL (s.drop p)).2 : Int) = 1 by omega)]
          exact good (fun hb => h2 hb.2)
      · simp only [if_neg (show ¬ ((decodeL (s.drop p)).1 : Int) = 65533 by omega)]
        exact good (fun hb => h1 hb.1)
    · have e : s.drop p = [] := List.drop_eq_nil_of_le (by omega)
      have en : nameN (d + 1) (decide (p = 0)) (s.drop p) = 0 := by rw [e]; rfl
      rw [en]
      simp only [if_neg (show ¬ (p : Int) < ((B s).size : Int) by rw [B_size]; omega)]
      exact Ev.now _
theorem gname_ev (s : Bs) (hs : s.length < 4611686018427387904) : Ev (fun k => glyph_Name.f k (B s)) (nameRes s (nameL s)) := by
  have := gname_l0 s hs s.length 0 (by omega) (by omega)
  rw [Nat.zero_add] at this
  unfold glyph_Name.f
  exact this

/-! ### A name without a colon, and nothing else -/
def noC (l : Bs) : Bool := l.all fun c => c != 58
def plainB (s : Bs) : Bool := decide (nameL s ≠ 0) && decide (nameL s = s.length) && noC s
theorem noC_index : ∀ (l : Bs), (!decide (0 ≤ indexByte l 58)) = noC l := by
  intro l
  induction l with
  | nil => rfl
  | cons c t ih =>
    unfold noC at ih ⊢
    rw [List.all_cons, ← ih]
    have hge := indexByte_ge t 58
    by_cases h : c = 58
    · subst h; simp [indexByte]
    · have : (c == 58) = false := by simp [h]
      simp only [indexByte, this, bne, Bool.not_false, Bool.true_and, Bool.false_eq_true, if_false]
      congr 1
      split
      · rename_i hi
        simp only [beq_iff_eq] at hi
        rw [hi]
      · rename_i hi
        simp only [beq_iff_eq] at hi
        rw [decide_eq_decide]
        omega
theorem rplain_l0 (l : Bs) (hl : l.length < 4611686018427387904) : ∀ (d i : Nat), l.length - i ≤ d → i ≤ l.length → Ev (fun k => broadsheetref05_Plain.l0 k (B l) (i : Int)) (noC (l.drop i)) := by
  intro d
  induction d with
  | zero =>
    intro i hd hi
    refine Ev.step (fun k => (show broadsheetref05_Plain.l0 (k + 1) (B l) i = _ from by rw [broadsheetref05_Plain.l0])) ?_
    rw [List.drop_eq_nil_of_le (by omega)]
    simp only [if_neg (show ¬ (i : Int) < ((B l).size : Int) by rw [B_size]; omega)]
    exact Ev.now _
  | succ d ih =>
    intro i hd hi
    refine Ev.step (fun k => (show broadsheetref05_Plain.l0 (k + 1) (B l) i = _ from by rw [broadsheetref05_Plain.l0])) ?_
    by_cases h : i < l.length
    · have e1 : wrap64 ((i : Int) + 1) = ((i + 1 : Nat) : Int) := by rw [w64 (by omega) (by omega)]; rfl
      rw [List.drop_eq_getElem_cons h]
      simp only [if_pos (show (i : Int) < ((B l).size : Int) by rw [B_size]; omega), if_pos (show (0 : Int) ≤ (i : Int) by omega), bt_val l i h, e1]
      by_cases hc : l[i] = 58
      · simp only [hc, if_pos (show (((58 : UInt8).toNat : Nat) : Int) = 58 from rfl)]
        exact Ev.now _
      · simp only [if_neg (show ¬ ((l[i].toNat : Nat) : Int) = 58 from val_ne _ 58 hc)]
        have : noC (l[i] :: l.drop (i + 1)) = noC (l.drop (i + 1)) := by unfold noC; rw [List.all_cons]; simp [hc]
        rw [this]
        exact ih (i + 1) (by omega) (by omega)
    · rw [List.drop_eq_nil_of_le (by omega)]
      simp only [if_neg (show ¬ (i : Int) < ((B l).size : Int) by rw [B_size]; omega)]
      exact Ev.now _
theorem nameL_le (s : Bs) : nameL s ≤ s.length := nameN_le _ _ _
theorem nameRes_zero {s : Bs} {n : Nat} (h : n = 0) : nameRes s n = ((⟨#[]⟩ : ByteArray), (⟨#[]⟩ : ByteArray), 51) := by unfold nameRes; rw [if_pos h]
theorem nameRes_some {s : Bs} {n : Nat} (h : n ≠ 0) : nameRes s n = (B (s.take n), B (s.drop n), 0) := by unfold nameRes; rw [if_neg h]
theorem rplain_ev (s : Bs) (hs : s.length < 4611686018427387904) : Ev (fun k => broadsheetref05_Plain.f k (B s)) (plainB s) := by
  unfold broadsheetref05_Plain.f
  refine Ev.bind (rname_ev s hs) ?_
  have hle := nameL_le s
  unfold plainB
  by_cases h0 : nameL s = 0
  · rw [nameRes_zero h0]
    simp only [if_neg (show ¬ (51 : Int) = 0 by decide), h0, ne_eq, not_true_eq_false, decide_false, Bool.false_and]
    refine Ev.step (fun k => (show broadsheetref05_Plain.j0 (k + 1) (⟨#[]⟩ : ByteArray) true = _ from by rw [broadsheetref05_Plain.j0])) ?_
    simp only [if_true]
    exact Ev.now _
  · rw [nameRes_some h0]
    simp only [if_true, ne_eq, h0, not_false_eq_true, decide_true, Bool.true_and, B_toList]
    refine Ev.step (fun k => (show broadsheetref05_Plain.j0 (k + 1) (B (s.take (nameL s))) (s.drop (nameL s) != []) = _ from by rw [broadsheetref05_Plain.j0])) ?_
    by_cases h1 : nameL s = s.length
    · have e : s.drop (nameL s) = [] := List.drop_eq_nil_of_le (by omega)
      have e2 : s.take (nameL s) = s := List.take_of_length_le (by omega)
      rw [e, e2]
      simp only [bne_self_eq_false, Bool.false_eq_true, if_false, decide_eq_true h1, Bool.true_and]
      have := rplain_l0 s hs s.length 0 (by omega) (by omega)
      rw [List.drop_zero] at this
      exact this
    · have e : s.drop (nameL s) ≠ [] := by simp; omega
      simp only [bne_iff_ne.2 e, if_true, decide_eq_false h1, Bool.false_and]
      exact Ev.now _
theorem gplain_ev (s : Bs) (hs : s.length < 4611686018427387904) : Ev (fun k => glyph_Plain.f k (B s)) (plainB s) := by
  unfold glyph_Plain.f
  refine Ev.bind (gname_ev s hs) ?_
  have hle := nameL_le s
  unfold plainB
  by_cases h0 : nameL s = 0
  · rw [nameRes_zero h0]
    simp only [if_neg (show ¬ (51 : Int) = 0 by decide), h0, ne_eq, not_true_eq_false, decide_false, Bool.false_and]
    exact Ev.now _
  · rw [nameRes_some h0]
    simp only [if_true, ne_eq, h0, not_false_eq_true, decide_true, Bool.true_and, B_toList]
    by_cases h1 : nameL s = s.length
    · have e : s.drop (nameL s) = [] := List.drop_eq_nil_of_le (by omega)
      have ec : strings_Contains.f (B s) (⟨#[58]⟩ : ByteArray) = some (decide (0 ≤ indexByte s 58)) := rfl
      simp only [e, if_true, decide_eq_true h1, Bool.true_and, ec, Option.bind_some, noC_index]
      exact Ev.now _
    · have e : s.drop (nameL s) ≠ [] := by simp; omega
      simp only [if_neg e, decide_eq_false h1, Bool.false_and]
      exact Ev.now _
end Go.Proofs.YtidjihhklmfaiaaDoor.V
