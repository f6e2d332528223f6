/- MediaWide: what fits a range fits it without parameters, and with stars; all fits both stars; each type without parameters twice fits itself. -/
import Derived.Test.YtdecjlkfpbgkgaaGreatDoorF4
import Derived.Test.YtdecjlkfpbgkgaaGreatDoorPm9
namespace Go.Proofs.YtdecjlkfpbgkgaaGreatDoor.Pure
open Go.RowKit Go.Lib Go.Proofs.YtdecjlkfpbgkgaaGreatDoorW.PrintWords Go.Proofs.YtdecjlkfpbgkgaaGreatDoor.X Go.Proofs.YtdecjlkfpbgkgaaGreatDoor.Pm Go.Proofs.YtdecjlkfpbgkgaaGreatDoor.F
open Go.Proofs.YtdecjlkfpbgkgaaGreatDoor.U hiding Bs
theorem hit_star (b : ByteArray) : hitB ⟨#[42]⟩ b = true := by
  unfold hitB
  rw [show (⟨#[42]⟩ : ByteArray).toList = [42] from B_toList [42], beq_self_eq_true, Bool.true_or]
theorem hit_self (b : ByteArray) : hitB b b = true := by unfold hitB; rw [beq_self_eq_true b.toList, Bool.or_true]
/-- The names ahead of i are apart. -/
def Apart (l : List S38) (i : Nat) : Prop := ∀ (a b : Nat) (ha : a < l.length) (hb : b < a), a < i → l[a].f0.toList ≠ (l[b]'(by omega)).f0.toList
theorem apart_param (l : List S38) (h : Apart l l.length) (i : Nat) (hi : i < l.length) : paramW l l[i].f0 = (l[i].f1, true) := by
  have hf : l.find? (sameN l[i].f0) = some l[i] := by
    rw [List.find?_eq_some_iff_getElem]
    refine ⟨beq_iff_eq.2 rfl, i, hi, rfl, fun j hj => ?_⟩
    have := h i j hi hj hi
    show (!(l[j].f0.toList == l[i].f0.toList)) = true
    rw [beq_eq_false_iff_ne.2 (fun e => this e.symm)]
    rfl
  unfold paramW
  rw [hf]
theorem fits_self (t u : ByteArray) (l : List S38) (h : Apart l l.length) : fitsV t u l t u l = true := by
  unfold fitsV
  rw [hit_self, hit_self, Bool.true_and, Bool.true_and, List.all_eq_true]
  intro x hx
  obtain ⟨i, hi, rfl⟩ := List.getElem_of_mem hx
  have := apart_param l h i hi
  unfold parB
  show (_ || ((paramW l l[i].f0).2 && small (L (paramW l l[i].f0).1) == small (L l[i].f1))) = true
  rw [this]
  simp
theorem wide_l1 (t u : ByteArray) (l : List S38) (hl : l.length ≤ 1000) (i : Nat) (hi : i < l.length) (next : ∀ (x : Bool), (x = true → Apart l (i + 1)) → Ev (fun k => broadsheetlaw13_MediaWide.l0 k true x ((i + 1 : Nat) : Int) t u l) true) :
    ∀ (d j : Nat) (x : Bool), i - j ≤ d → j ≤ i → (x = true → Apart l i ∧ ∀ (b : Nat) (_ : b < j) (hbi : b < i), l[i].f0.toList ≠ (l[b]'(by omega)).f0.toList) → Ev (fun k => broadsheetlaw13_MediaWide.l1 k true x (i : Int) (j : Int) t u l) true := by
  have fin : ∀ (j : Nat) (x : Bool), ¬ j < i → j ≤ i → (x = true → Apart l i ∧ ∀ (b : Nat) (_ : b < j) (hbi : b < i), l[i].f0.toList ≠ (l[b]'(by omega)).f0.toList) → Ev (fun k => broadsheetlaw13_MediaWide.l1 k true x (i : Int) (j : Int) t u l) true := by
    intro j x h hj hx
    refine Ev.step (fun k => (show broadsheetlaw13_MediaWide.l1 (k + 1) true x (i : Int) (j : Int) t u l = _ from by rw [broadsheetlaw13_MediaWide.l1])) ?_
    rw [wstep i (by omega)]
    refine Ev.ite_neg (by omega) (next x (fun hh a b ha hb hai => ?_))
    obtain ⟨h1, h2⟩ := hx hh
    by_cases e : a = i
    · subst e
      exact h2 b (by omega) hb
    · exact h1 a b ha hb (by omega)
  intro d
  induction d with
  | zero => intro j x hd hj hx; exact fin j x (by omega) hj hx
  | succ d ih =>
    intro j x hd hj hx
    by_cases h : j < i
    · refine Ev.step (fun k => (show broadsheetlaw13_MediaWide.l1 (k + 1) true x (i : Int) (j : Int) t u l = _ from by rw [broadsheetlaw13_MediaWide.l1])) ?_
      rw [wstep j (by omega), rd_at l i hi, rd_at l j (by omega)]
      refine Ev.ite_pos (by omega) ?_
      cases x with
      | true =>
        obtain ⟨h1, h2⟩ := hx rfl
        refine Ev.ite_pos rfl (Ev.ite_pos (by omega) (Ev.ite_pos (by omega) (Ev.ite_pos (by omega) (Ev.ite_pos (by omega) ?_))))
        refine ih (j + 1) _ (by omega) (by omega) (fun hh => ⟨h1, fun b hb hbi => ?_⟩)
        by_cases e : b = j
        · subst e
          exact bne_iff_ne.1 hh
        · exact h2 b (by omega) hbi
      | false => exact Ev.ite_neg (by decide) (ih (j + 1) false (by omega) (by omega) (fun hh => by cases hh))
    · exact fin j x h hj hx
theorem wide_l0 (t u : ByteArray) (l : List S38) (hl : l.length ≤ 1000) (vl : ValsLt l) : ∀ (d i : Nat) (x : Bool), l.length - i ≤ d → i ≤ l.length → (x = true → Apart l i) → Ev (fun k => broadsheetlaw13_MediaWide.l0 k true x (i : Int) t u l) true := by
  have fin : ∀ (i : Nat) (x : Bool), ¬ i < l.length → i ≤ l.length → (x = true → Apart l i) → Ev (fun k => broadsheetlaw13_MediaWide.l0 k true x (i : Int) t u l) true := by
    intro i x h hi hx
    refine Ev.step (fun k => (show broadsheetlaw13_MediaWide.l0 (k + 1) true x (i : Int) t u l = _ from by rw [broadsheetlaw13_MediaWide.l0])) ?_
    refine Ev.ite_neg (by omega) (Ev.ite_pos rfl ?_)
    rw [gfits _ _ [] t u l (fun y hy => by cases hy) vl, show fitsV ⟨#[42]⟩ ⟨#[42]⟩ [] t u l = true from by unfold fitsV; rw [hit_star, hit_star]; rfl]
    refine Ev.some_bind (Ev.ite_pos rfl ?_)
    cases x with
    | true =>
      refine Ev.ite_pos rfl ?_
      have ei : i = l.length := by omega
      subst ei
      rw [gfits t u l t u l vl vl, fits_self t u l (hx rfl)]
      exact Ev.some_bind (Ev.now _)
    | false => exact Ev.ite_neg (by decide) (Ev.now _)
  intro d
  induction d with
  | zero => intro i x hd hi hx; exact fin i x (by omega) hi hx
  | succ d ih =>
    intro i x hd hi hx
    by_cases h : i < l.length
    · refine Ev.step (fun k => (show broadsheetlaw13_MediaWide.l0 (k + 1) true x (i : Int) t u l = _ from by rw [broadsheetlaw13_MediaWide.l0])) ?_
      refine Ev.ite_pos (by omega) ?_
      exact wide_l1 t u l hl i h (fun y hy => ih (i + 1) y (by omega) (by omega) hy) i 0 x (by omega) (by omega) (fun hh => ⟨hx hh, fun b hb => by omega⟩)
    · exact fin i x h hi hx
theorem wide_j1 (t u : ByteArray) (l : List S38) (hl : l.length ≤ 1000) (vl : ValsLt l) : Ev (fun k => broadsheetlaw13_MediaWide.j1 k true false t u l) true := by
  refine Ev.step (fun k => (show broadsheetlaw13_MediaWide.j1 (k + 1) true false t u l = _ from by rw [broadsheetlaw13_MediaWide.j1])) ?_
  refine Ev.ite_neg (by decide) (wide_l0 t u l hl vl l.length 0 true (by omega) (by omega) (fun _ a b ha hb hai => by omega))
theorem MediaWide (a0 a1 : ByteArray) (l : List S38) (b0 b1 : ByteArray) (m : List S38) (h0 : FitsRow a0 a1 l) (h1 : FitsRow b0 b1 m) : ∃ k, broadsheetlaw13_MediaWide.f k a0 a1 l b0 b1 m = some true := by
  refine Ev.rounds (g := fun k => broadsheetlaw13_MediaWide.f k a0 a1 l b0 b1 m) ?_
  unfold broadsheetlaw13_MediaWide.f
  rw [awake13]
  refine Ev.some_bind (Ev.ite_pos rfl (Ev.bind (rfew_ev a0 a1 l h0) ?_))
  have jt : Ev (fun k => broadsheetlaw13_MediaWide.j0 k true true a0 a1 l b0 b1 m) true := by
    refine Ev.step (fun k => (show broadsheetlaw13_MediaWide.j0 (k + 1) true true a0 a1 l b0 b1 m = _ from by rw [broadsheetlaw13_MediaWide.j0])) ?_
    exact Ev.ite_pos rfl (Ev.now _)
  cases hf : fewV a0 a1 l with
  | false => exact Ev.ite_neg (by decide) jt
  | true =>
    refine Ev.ite_pos rfl (Ev.bind (rfew_ev b0 b1 m h1) ?_)
    cases hg : fewV b0 b1 m with
    | false => exact jt
    | true =>
      refine Ev.step (fun k => (show broadsheetlaw13_MediaWide.j0 (k + 1) true (!true) a0 a1 l b0 b1 m = _ from by rw [broadsheetlaw13_MediaWide.j0])) ?_
      refine Ev.ite_neg (by decide) ?_
      have vl := few_lt hf
      have vm := few_lt hg
      have v0 : ValsLt [] := fun y hy => by cases hy
      rw [gfits a0 a1 l b0 b1 m vl vm, gfits a0 a1 [] b0 b1 m v0 vm, gfits b0 ⟨#[42]⟩ [] b0 b1 m v0 vm]
      have j1 := wide_j1 b0 b1 m (few_len hg) vm
      cases hr : fitsV a0 a1 l b0 b1 m with
      | false => exact Ev.some_bind (Ev.ite_neg (by decide) j1)
      | true =>
        have e1 : fitsV a0 a1 [] b0 b1 m = true := by
          unfold fitsV at hr ⊢
          rw [Bool.and_eq_true] at hr
          rw [hr.1]
          rfl
        have e2 : fitsV b0 ⟨#[42]⟩ [] b0 b1 m = true := by unfold fitsV; rw [hit_self, hit_star]; rfl
        rw [e1, e2]
        exact Ev.some_bind (Ev.ite_pos rfl (Ev.some_bind (Ev.ite_pos rfl (Ev.some_bind j1))))
end Go.Proofs.YtdecjlkfpbgkgaaGreatDoor.Pure
