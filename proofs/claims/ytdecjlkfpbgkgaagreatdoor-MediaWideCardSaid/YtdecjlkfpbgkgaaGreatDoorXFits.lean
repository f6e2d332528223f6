/- media.Fits, walked by hand. -/
import Derived.Test.YtdecjlkfpbgkgaaGreatDoorXParam
namespace Go.Proofs.YtdecjlkfpbgkgaaGreatDoor.X
open Go.RowKit Go.Shelf Go.Proofs.YtdecjlkfpbgkgaaGreatDoorW.PrintWords Go.Proofs.YtdecjlkfpbgkgaaGreatDoorW.PrintLast Go.Proofs.YtdecjlkfpbgkgaaGreatDoorW.PrintMore Go.Proofs.YtdecjlkfpbgkgaaGreatDoor.F Go.Proofs.YtdecjlkfpbgkgaaGreatDoor.Pm
set_option linter.unusedVariables false
set_option linter.unusedSimpArgs false
def hitB (a b : ByteArray) : Bool := a.toList == [42] || a.toList == b.toList
abbrev paramV := paramW
/-- Does a parameter of a range agree with a type's? -/
def parB (m : List S38) (p : S38) : Bool := p.f0.toList == [113] || ((paramV m p.f0).2 && small (L (paramV m p.f0).1) == small (L p.f1))
def fitsV (a1 a2 : ByteArray) (l : List S38) (b1 b2 : ByteArray) (m : List S38) : Bool := hitB a1 b1 && hitB a2 b2 && l.all (parB m)
def Quad (W : World) (n : Nat) (t : TypeId) (u v x y : Value) : Prop := W.heap[n]? = some (.cells #[u, v, x, y] t (0, 0))
theorem Quad.new (W : World) (t : TypeId) (u v x y : Value) : Quad (W.alloc (.cells #[u, v, x, y] t)) W.heap.size t u v x y := World.alloc_heap_new W _
theorem Quad.lt {W : World} {n : Nat} {t : TypeId} {u v x y : Value} (h : Quad W n t u v x y) : n < W.heap.size := (Array.getElem?_eq_some_iff.1 h).1
theorem Quad.cell {W : World} {n : Nat} {t : TypeId} {u v x y : Value} (h : Quad W n t u v x y) (i : Nat) : W.cell? ⟨n, i, none⟩ = (#[u, v, x, y] : Array Value)[i]? := by simp [World.cell?, show W.heap[n]? = _ from h]
theorem Quad.below {W W' : World} {n : Nat} {t : TypeId} {u v x y : Value} (h : Quad W n t u v x y) (hb : Below W.heap.size W W') : Quad W' n t u v x y := (hb.block n h.lt).trans h
theorem paramW_size (m : List S38) (n : ByteArray) (h : ∀ x ∈ m, x.f1.size ≤ 140737488355328) : (paramW m n).1.size ≤ 140737488355328 := by
  unfold paramW
  cases hf : m.find? (sameN n) with
  | none => exact Nat.zero_le _
  | some x => exact h x (List.mem_of_find?_eq_some hf)
def fitsT11 : Bool × List (List Nat × List Nat) := (true, [([], []), ([0], [0]), ([1], [1]), ([2], [2]), ([3], [3]), ([4, 3], [3, 4]), ([5, 3, 3], [3, 5]), ([6], [6]), ([7, 6, 6], [6, 7]), ([6], [6]), ([9, 6], [6, 9]), ([10, 8, 6], [6, 10]), ([8, 11, 6], [6, 8, 11]), ([6, 12, 3], [3, 6, 12]), ([3, 13], [3, 13])])
def fitsB11 : List Nat := [0, 1, 3, 7, 15, 31, 63, 127, 255, 127, 639, 1663, 4095, 8191, 16383]
theorem fits_tab11 : rtab .any (opsOf Tryz.f16 11) = fitsT11 := by kernel_rfl
theorem fits_bits11 : waitsOk fitsT11.2 fitsB11 = true := by kernel_rfl
set_option maxHeartbeats 8000000 in
set_option maxRecDepth 100000 in
theorem fits_calls (a1 a2 : ByteArray) (A : Option Addr) (c : Nat) (l : List S38) (b1 b2 : ByteArray) (A' : Option Addr) (c' : Nat) (m : List S38) (w : World) (hC : Kd.C k38 w A l.length l) (hc : l.length ≤ c) (hC' : Kd.C k38 w A' m.length m) (hc' : m.length ≤ c') (hvl : ∀ x ∈ l, x.f1.size ≤ 140737488355328) (hvm : ∀ x ∈ m, x.f1.size ≤ 140737488355328) (R : Bool) (hR : fitsV a1 a2 l b1 b2 m = R) :
    Calls Tryz.prog 16 #[.agg #[.string a1, .string a2, .slice A l.length c], .agg #[.string b1, .string b2, .slice A' m.length c']] w fun e w' => e = .returned (.bool R) ∧ Below w.heap.size w w' := by
  have HR := Aside0.mk hR
  clear hR
  have HC := Aside0.mk hC
  have HC' := Aside0.mk hC'
  have HVL := Aside0.mk hvl
  have HVM := Aside0.mk hvm
  clear hvl hvm
  have hu25 := Tryz.underlying25
  have hu38 := Tryz.underlying38
  have hu52 := Tryz.underlying52
  have hk0 := Tri.new w 25 (.string a1) (.string a2) (.slice A l.length c)
  have hB0 : Below w.heap.size w (w.alloc (.cells #[.string a1, .string a2, .slice A l.length c] 25)) := (Below.refl _ _).alloc (Nat.le_refl _) _
  have hs0 : (w.alloc (.cells #[.string a1, .string a2, .slice A l.length c] 25)).heap.size = w.heap.size + 1 := World.size_alloc _ _
  obtain ⟨W0, hW0⟩ : ∃ x, w.alloc (.cells #[.string a1, .string a2, .slice A l.length c] 25) = x := ⟨_, rfl⟩
  rw [hW0] at hk0 hB0 hs0
  have hj1 := Tri.new W0 25 (.string b1) (.string b2) (.slice A' m.length c')
  have hk1 := hk0.below ((Below.refl W0.heap.size W0).alloc (Nat.le_refl _) (.cells #[.string b1, .string b2, .slice A' m.length c'] 25))
  have hB1 : Below w.heap.size w (W0.alloc (.cells #[.string b1, .string b2, .slice A' m.length c'] 25)) := hB0.alloc hB0.size _
  have hs1 : (W0.alloc (.cells #[.string b1, .string b2, .slice A' m.length c'] 25)).heap.size = w.heap.size + 2 := by rw [World.size_alloc, hs0]
  obtain ⟨W1, hW1⟩ : ∃ x, W0.alloc (.cells #[.string b1, .string b2, .slice A' m.length c'] 25) = x := ⟨_, rfl⟩
  rw [hW1] at hk1 hB1 hs1 hj1
  rw [hs0] at hj1
  clear hC hC' hk0 hB0
  have d0 := hk1.c0
  have d1 := hk1.c1
  have d2 := hk1.c2
  have e0 := hj1.c0
  have e1 := hj1.c1
  have e2 := hj1.c2
  go_enter Tryz.func16, Tryz.ntmps16
  go_wp2_with fail
  have hq := Quad.new W1 52 (.string a1) (.string b1) (.string a2) (.string b2)
  rw [hs1] at hq
  have alB : Below W1.heap.size W1 (W1.alloc (.cells #[.string a1, .string b1, .string a2, .string b2] 52)) := (Below.refl _ _).alloc (Nat.le_refl _) _
  have HQ0 := Aside0.mk hq
  have HK0 := Aside0.mk (hk1.below alB)
  have HJ0 := Aside0.mk (hj1.below alB)
  have HB0 := Aside0.mk (hB1.trans (alB.mono hB1.size))
  clear hq alB hk1 hj1 hB1 hs1 hW1 hW0 hs0 d0 d1 d2 e0 e1 e2
  generalize W1.alloc (.cells #[.string a1, .string b1, .string a2, .string b2] 52) = W2 at HQ0 HK0 HJ0 HB0 ⊢
  go_loopg [23] 3 (fun kq v23 wr => ∃ (i : Nat), v23 = .int .i64 i ∧ Aside0 (Quad wr (w.heap.size + 2) 52 (.string a1) (.string b1) (.string a2) (.string b2)) ∧ Aside0 (Tri wr w.heap.size 25 (.string a1) (.string a2) (.slice A l.length c)) ∧ Aside0 (Tri wr (w.heap.size + 1) 25 (.string b1) (.string b2) (.slice A' m.length c')) ∧ Aside0 (Below w.heap.size w wr) ∧ Aside0 (i + kq = 3 ∧ i ≤ 2) ∧ Aside0 ((1 ≤ i → hitB a1 b1 = true) ∧ (2 ≤ i → hitB a2 b2 = true)))
  case atStart => exact ⟨0, rfl, HQ0, HK0, HJ0, HB0, ⟨by omega, by omega⟩, ⟨fun h => by omega, fun h => by omega⟩⟩
  case round =>
    obtain ⟨i, rfl, HQ, HK, HJ, HB, HI, HH⟩ := hrel
    cases gk with
    | zero => exact absurd HI.out (by omega)
    | succ k1 =>
      have q0 := (HQ.out.cell 0).trans rfl
      have q1 := (HQ.out.cell 1).trans rfl
      have q2 := (HQ.out.cell 2).trans rfl
      have q3 := (HQ.out.cell 3).trans rfl
      have hi : i = 0 ∨ i = 1 ∨ i = 2 := by have := HI.out; omega
      rcases hi with rfl | rfl | rfl
      · obtain ⟨p1, hp1⟩ : ∃ p, (a1.toList == [42]) = p := ⟨_, rfl⟩
        obtain ⟨p2, hp2⟩ : ∃ p, (a1.toList == b1.toList) = p := ⟨_, rfl⟩
        have hn1 : (a1.toList != [42]) = !p1 := by unfold bne; rw [hp1]
        have hn2 : (a1.toList != b1.toList) = !p2 := by unfold bne; rw [hp2]
        have HP := Aside0.mk (show hitB a1 b1 = (p1 || p2) from by unfold hitB; rw [hp1, hp2])
        have al : Below wr.heap.size wr (wr.alloc (.cells #[.string a1, .string b1] 52)) := (Below.refl _ _).alloc (Nat.le_refl _) _
        have HQn := Aside0.mk (HQ.out.below al)
        have HKn := Aside0.mk (HK.out.below al)
        have HJn := Aside0.mk (HJ.out.below al)
        have HBn := Aside0.mk (HB.out.trans (al.mono HB.out.size))
        clear al
        go_wp2_with fail
        all_goals first
          | (go_ret
             refine ⟨?_, HBn.out⟩
             rw [← HR.out]
             unfold fitsV
             rw [HP.out]
             cases p1 <;> cases p2 <;> simp_all)
          | (go_roundg k1
             (case measure => omega)
             (case rel => exact ⟨1, rfl, HQn, HKn, HJn, HBn, ⟨by have := HI.out; omega, by omega⟩, ⟨fun _ => by rw [HP.out]; cases p1 <;> cases p2 <;> simp_all, fun h => absurd h (by omega)⟩⟩))
      · obtain ⟨p1, hp1⟩ : ∃ p, (a2.toList == [42]) = p := ⟨_, rfl⟩
        obtain ⟨p2, hp2⟩ : ∃ p, (a2.toList == b2.toList) = p := ⟨_, rfl⟩
        have hn1 : (a2.toList != [42]) = !p1 := by unfold bne; rw [hp1]
        have hn2 : (a2.toList != b2.toList) = !p2 := by unfold bne; rw [hp2]
        have HP := Aside0.mk (show hitB a2 b2 = (p1 || p2) from by unfold hitB; rw [hp1, hp2])
        have al : Below wr.heap.size wr (wr.alloc (.cells #[.string a2, .string b2] 52)) := (Below.refl _ _).alloc (Nat.le_refl _) _
        have HQn := Aside0.mk (HQ.out.below al)
        have HKn := Aside0.mk (HK.out.below al)
        have HJn := Aside0.mk (HJ.out.below al)
        have HBn := Aside0.mk (HB.out.trans (al.mono HB.out.size))
        clear al
        go_wp2_with fail
        all_goals first
          | (go_ret
             refine ⟨?_, HBn.out⟩
             rw [← HR.out]
             unfold fitsV
             rw [HP.out]
             cases p1 <;> cases p2 <;> simp_all)
          | (go_roundg k1
             (case measure => omega)
             (case rel => exact ⟨2, rfl, HQn, HKn, HJn, HBn, ⟨by have := HI.out; omega, by omega⟩, ⟨fun _ => HH.out.1 (by omega), fun _ => by rw [HP.out]; cases p1 <;> cases p2 <;> simp_all⟩⟩))
      · have d2 := HK.out.c2
        have HA := Aside0.mk (show hitB a1 b1 = true ∧ hitB a2 b2 = true from ⟨HH.out.1 (by omega), HH.out.2 (by omega)⟩)
        have HR2 := Aside0.mk (show l.all (parB m) = R from by rw [← HR.out]; unfold fitsV; rw [HA.out.1, HA.out.2]; rfl)
        clear q0 q1 q2 q3 HQ HI HH HA HR HQ0 HK0 HJ0 HB0
        have hm := Kd.C_max HC.out
        go_wp2_with fail
        go_loopg [41] (l.length + 1) (fun kq v41 W => ∃ (i : Nat), v41 = .int .i64 i ∧ Aside0 (Tri W (w.heap.size + 1) 25 (.string b1) (.string b2) (.slice A' m.length c')) ∧ Aside0 (Below w.heap.size w W) ∧ Aside0 (l.all (parB m) = (l.drop i).all (parB m)) ∧ Aside0 (i + kq = l.length + 1 ∧ i ≤ l.length))
        case atStart => exact ⟨0, rfl, HJ, HB, ⟨rfl⟩, ⟨by omega, by omega⟩⟩
        case round =>
          obtain ⟨i, rfl, HJ2, HB2, HE, HK2⟩ := hrel
          cases gk with
          | zero => exact absurd HK2.out (by omega)
          | succ k2 =>
            by_cases hi : i < l.length
            · obtain ⟨ad, rfl, x0, x1⟩ := at_T38 (Kd.C_below HC.out HB2.out) (i : Int) (by omega) (by omega)
              have hrd : rd_T38 l (i : Int) = l[i]'hi := by
                unfold rd_T38
                rw [Int.toNat_natCast, List.getD_eq_getElem?_getD, List.getElem?_eq_getElem hi, Option.getD_some]
              have hst : (l.drop i).all (parB m) = (parB m (l[i]'hi) && (l.drop (i + 1)).all (parB m)) := by rw [List.drop_eq_getElem_cons hi, List.all_cons]
              have HSX := Aside0.mk (HVL.out _ (List.getElem_mem hi))
              rw [hrd] at x0 x1
              clear hrd
              generalize l[i]'hi = x at x0 x1 hst HSX
              rw [Int.toNat_natCast] at x0 x1
              have hlt : decide ((i : Int) < (l.length : Int)) = true := decide_eq_true (by omega)
              have p1 := eq_true (show 0 ≤ (i : Int) by omega)
              have p2 := eq_true (show (i : Int) < (l.length : Int) by omega)
              have HST := Aside0.mk (HR2.out.symm.trans (HE.out.trans hst))
              have HEQ := Aside0.mk (HE.out.trans hst)
              have al : ∀ W : World, Below W.heap.size W (W.alloc (.cells #[.string x.f0, .string x.f1] 38)) := fun W => (Below.refl _ _).alloc (Nat.le_refl _) _
              have hj := HJ2.out.below (al _)
              have HX := Aside0.mk (Two.new wr 38 (.string x.f0) (.string x.f1))
              have HJ3 := Aside0.mk hj
              have HB3 := Aside0.mk (HB2.out.trans ((al _).mono HB2.out.size))
              have t0 := hj.c0
              have t1 := hj.c1
              have t2 := hj.c2
              clear hst hj al
              go_wp2_with fail
              refine (param_calls b1 b2 A' c' m x.f0 _ (Kd.C_below HC'.out HB3.out) hc').mono ?_
              rintro e w9 ⟨rfl, h9⟩
              have HX9 := Aside0.mk (HX.out.below h9)
              have HJ9 := Aside0.mk (HJ3.out.below h9)
              have HB9 := Aside0.mk (HB3.out.trans (h9.mono HB3.out.size))
              obtain ⟨pv, hpv⟩ : ∃ v, (paramW m x.f0).1 = v := ⟨_, rfl⟩
              obtain ⟨pk, hpk⟩ : ∃ v, (paramW m x.f0).2 = v := ⟨_, rfl⟩
              have HPB := Aside0.mk (show parB m x = (x.f0.toList == [113] || (pk && small (L pv) == small (L x.f1))) from by unfold parB; rw [← hpv, ← hpk])
              have HSV := Aside0.mk (show pv.size ≤ 140737488355328 from by rw [← hpv]; exact paramW_size m x.f0 HVM.out)
              rw [hpv, hpk]
              clear hpv hpk h9 HX HJ3 HB3 t0 t1 t2
              go_wp2_with fail
              have KX := HX9
              have KJ := HJ9
              have KW := HB9
              have HU := Aside0.mk (show w.heap.size ≤ wr.heap.size from HB2.out.size)
              generalize wr.heap.size = n at KX HU ⊢
              obtain ⟨q, hq⟩ : ∃ q, (x.f0.toList == [113]) = q := ⟨_, rfl⟩
              have hnq : (x.f0.toList != [113]) = !q := by unfold bne; rw [hq]
              rw [hq] at HPB
              refine start_ (n := 15) (S := fun w' => w'.cell? ⟨n, 0, none⟩ = some (.string x.f0) ∧ w'.cell? ⟨n, 1, none⟩ = some (.string x.f1)) (ds := []) #[false, false, false, false, false, false, false, false, false, false, false, false, false, false, false] (by kernel_rfl) rfl rfl ⟨KX.out.c0, KX.out.c1⟩ (fun hHeld => ?_)
              refine with_tabW fits_tab11 fits_bits11 (fun HT_ HW_ => ?_)
              have hd : Below w9.heap.size w9 w9.drew := (Below.refl _ _).drew
              replace KX := Aside0.mk (KX.out.below hd)
              replace KJ := Aside0.mk (KJ.out.below hd)
              replace KW := Aside0.mk (KW.out.trans (hd.mono KW.out.size))
              clear hd HX9 HJ9 HB9
              generalize World.drew _ = v0 at KX KJ KW hHeld ⊢
              cases q with
              | true =>
                refine pure_ (i := 0) (N := some 52) (v := .pointer (some ⟨n, 0, none⟩)) #[true, false, false, false, false, false, false, false, false, false, false, false, false, false, false] rfl rfl (any_of HT_.out (by kernel_rfl)) (fun _ _ _ h => h) (Or.inl ⟨by rfl, fun w' => by go_simp⟩) rfl ?_
                simp only [Act.put, List.setIfInBounds_toArray, List.set_cons_zero, List.set_cons_succ]
                refine take_ (i := 1) (N := some 53) (v := .string x.f0) #[true, true, false, false, false, false, false, false, false, false, false, false, false, false, false] rfl rfl (take_ofW HT_.out HW_.out (by kernel_rfl)) (fun _ _ _ h => h) (Or.inl ⟨by rfl, fun w' hS => by obtain ⟨s0, s1⟩ := hS; go_simp⟩) hHeld rfl ?_
                simp only [Act.put, List.setIfInBounds_toArray, List.set_cons_zero, List.set_cons_succ]
                refine pure_ (i := 2) (N := some 54) (v := .bool false) #[true, true, true, false, false, false, false, false, false, false, false, false, false, false, false] rfl rfl (any_of HT_.out (by kernel_rfl)) (fun _ _ _ h => h) (Or.inl ⟨by rfl, fun w' => by go_simp⟩) rfl ?_
                simp only [Act.put, List.setIfInBounds_toArray, List.set_cons_zero, List.set_cons_succ]
                refine pure_ (i := 3) (N := some 55) (v := .bool false) #[true, true, true, true, false, false, false, false, false, false, false, false, false, false, false] rfl rfl (any_of HT_.out (by kernel_rfl)) (fun _ _ _ h => h) (Or.inl ⟨by rfl, fun w' => by go_simp⟩) rfl ?_
                simp only [Act.put, List.setIfInBounds_toArray, List.set_cons_zero, List.set_cons_succ]
                refine pure_ (i := 4) (N := some 56) #[true, true, true, true, true, false, false, false, false, false, false, false, false, false, false] rfl rfl (any_of HT_.out (by kernel_rfl)) (fun _ _ _ h => h) (Or.inr ⟨by rfl, rfl⟩) rfl ?_
                simp only [Act.put, List.setIfInBounds_toArray, List.set_cons_zero, List.set_cons_succ]
                refine pure_ (i := 5) (N := some 57) #[true, true, true, true, true, true, false, false, false, false, false, false, false, false, false] rfl rfl (any_of HT_.out (by kernel_rfl)) (fun _ _ _ h => h) (Or.inr ⟨by rfl, rfl⟩) rfl ?_
                simp only [Act.put, List.setIfInBounds_toArray, List.set_cons_zero, List.set_cons_succ]
                refine pure_ (i := 6) (N := some 58) #[true, true, true, true, true, true, true, false, false, false, false, false, false, false, false] rfl rfl (any_of HT_.out (by kernel_rfl)) (fun _ _ _ h => h) (Or.inr ⟨by rfl, rfl⟩) rfl ?_
                simp only [Act.put, List.setIfInBounds_toArray, List.set_cons_zero, List.set_cons_succ]
                refine pure_ (i := 7) (N := some 59) #[true, true, true, true, true, true, true, true, false, false, false, false, false, false, false] rfl rfl (any_of HT_.out (by kernel_rfl)) (fun _ _ _ h => h) (Or.inr ⟨by rfl, rfl⟩) rfl ?_
                simp only [Act.put, List.setIfInBounds_toArray, List.set_cons_zero, List.set_cons_succ]
                refine pure_ (i := 9) (N := some 61) #[true, true, true, true, true, true, true, true, false, true, false, false, false, false, false] rfl rfl (any_of HT_.out (by kernel_rfl)) (fun _ _ _ h => h) (Or.inr ⟨by rfl, rfl⟩) rfl ?_
                simp only [Act.put, List.setIfInBounds_toArray, List.set_cons_zero, List.set_cons_succ]
                refine take_ (i := 10) (N := some 62) #[true, true, true, true, true, true, true, true, false, true, true, false, false, false, false] rfl rfl (take_ofW HT_.out HW_.out (by kernel_rfl)) (fun _ _ _ h => h) (Or.inr ⟨by rfl, rfl⟩) hHeld rfl ?_
                simp only [Act.put, List.setIfInBounds_toArray, List.set_cons_zero, List.set_cons_succ]
                refine one_ (i := 8) (N := some 60) #[true, true, true, true, true, true, true, true, true, true, true, false, false, false, false] rfl rfl (one_of HT_.out (by kernel_rfl)) (by decide) (fun K hK => ?_)
                refine hK.out _ _ ⟨KX.out.c0, KX.out.c1⟩ (fun hHeld => ?_)
                clear hK K
                simp only [Act.put, List.setIfInBounds_toArray, List.set_cons_zero, List.set_cons_succ]
                refine one_ (i := 11) (N := some 63) #[true, true, true, true, true, true, true, true, true, true, true, true, false, false, false] rfl rfl (one_of HT_.out (by kernel_rfl)) (by decide) (fun K hK => ?_)
                refine hK.out _ _ ⟨KX.out.c0, KX.out.c1⟩ (fun hHeld => ?_)
                clear hK K
                simp only [Act.put, List.setIfInBounds_toArray, List.set_cons_zero, List.set_cons_succ]
                refine pure_ (i := 12) (N := some 64) #[true, true, true, true, true, true, true, true, true, true, true, true, true, false, false] rfl rfl (any_of HT_.out (by kernel_rfl)) (fun _ _ _ h => h) (Or.inr ⟨by rfl, rfl⟩) rfl ?_
                simp only [Act.put, List.setIfInBounds_toArray, List.set_cons_zero, List.set_cons_succ]
                refine pure_ (i := 13) (N := some 65) #[true, true, true, true, true, true, true, true, true, true, true, true, true, true, false] rfl rfl (any_of HT_.out (by kernel_rfl)) (fun _ _ _ h => h) (Or.inr ⟨by rfl, rfl⟩) rfl ?_
                simp only [Act.put, List.setIfInBounds_toArray, List.set_cons_zero, List.set_cons_succ]
                refine pure_ (i := 14) (N := some 66) (v := .bool false) #[true, true, true, true, true, true, true, true, true, true, true, true, true, true, true] rfl rfl (any_of HT_.out (by kernel_rfl)) (fun _ _ _ h => h) (Or.inl ⟨by rfl, fun w' => by go_simp⟩) rfl ?_
                simp only [Act.put, List.setIfInBounds_toArray, List.set_cons_zero, List.set_cons_succ]
                refine done_ (done_of HT_.out (by kernel_rfl)) ?_
                clear hHeld
                have HPT := Aside0.mk (show parB m x = true from HPB.out)
                clear HPB hq hnq
                go_wp2
                go_roundg k2
                case measure => omega
                case rel => exact ⟨i + 1, congrArg (Value.int IntKind.i64) (show (i : Int) + 1 = ((i + 1 : Nat) : Int) from rfl), KJ, KW, ⟨by rw [HEQ.out, HPT.out]; rfl⟩, ⟨by have := HK2.out; omega, by omega⟩⟩
              | false =>
                cases pk with
                | false =>
                  refine pure_ (i := 0) (N := some 52) (v := .pointer (some ⟨n, 0, none⟩)) #[true, false, false, false, false, false, false, false, false, false, false, false, false, false, false] rfl rfl (any_of HT_.out (by kernel_rfl)) (fun _ _ _ h => h) (Or.inl ⟨by rfl, fun w' => by go_simp⟩) rfl ?_
                  simp only [Act.put, List.setIfInBounds_toArray, List.set_cons_zero, List.set_cons_succ]
                  refine take_ (i := 1) (N := some 53) (v := .string x.f0) #[true, true, false, false, false, false, false, false, false, false, false, false, false, false, false] rfl rfl (take_ofW HT_.out HW_.out (by kernel_rfl)) (fun _ _ _ h => h) (Or.inl ⟨by rfl, fun w' hS => by obtain ⟨s0, s1⟩ := hS; go_simp⟩) hHeld rfl ?_
                  simp only [Act.put, List.setIfInBounds_toArray, List.set_cons_zero, List.set_cons_succ]
                  refine pure_ (i := 2) (N := some 54) (v := .bool true) #[true, true, true, false, false, false, false, false, false, false, false, false, false, false, false] rfl rfl (any_of HT_.out (by kernel_rfl)) (fun _ _ _ h => h) (Or.inl ⟨by rfl, fun w' => by go_simp⟩) rfl ?_
                  simp only [Act.put, List.setIfInBounds_toArray, List.set_cons_zero, List.set_cons_succ]
                  refine pure_ (i := 3) (N := some 55) (v := .bool true) #[true, true, true, true, false, false, false, false, false, false, false, false, false, false, false] rfl rfl (any_of HT_.out (by kernel_rfl)) (fun _ _ _ h => h) (Or.inl ⟨by rfl, fun w' => by go_simp⟩) rfl ?_
                  simp only [Act.put, List.setIfInBounds_toArray, List.set_cons_zero, List.set_cons_succ]
                  refine pure_ (i := 4) (N := some 56) (v := .bool false) #[true, true, true, true, true, false, false, false, false, false, false, false, false, false, false] rfl rfl (any_of HT_.out (by kernel_rfl)) (fun _ _ _ h => h) (Or.inl ⟨by rfl, fun w' => by go_simp⟩) rfl ?_
                  simp only [Act.put, List.setIfInBounds_toArray, List.set_cons_zero, List.set_cons_succ]
                  refine pure_ (i := 5) (N := some 57) (v := .bool true) #[true, true, true, true, true, true, false, false, false, false, false, false, false, false, false] rfl rfl (any_of HT_.out (by kernel_rfl)) (fun _ _ _ h => h) (Or.inl ⟨by rfl, fun w' => by go_simp⟩) rfl ?_
                  simp only [Act.put, List.setIfInBounds_toArray, List.set_cons_zero, List.set_cons_succ]
                  refine pure_ (i := 6) (N := some 58) (v := .bool true) #[true, true, true, true, true, true, true, false, false, false, false, false, false, false, false] rfl rfl (any_of HT_.out (by kernel_rfl)) (fun _ _ _ h => h) (Or.inl ⟨by rfl, fun w' => by go_simp⟩) rfl ?_
                  simp only [Act.put, List.setIfInBounds_toArray, List.set_cons_zero, List.set_cons_succ]
                  refine pure_ (i := 7) (N := some 59) #[true, true, true, true, true, true, true, true, false, false, false, false, false, false, false] rfl rfl (any_of HT_.out (by kernel_rfl)) (fun _ _ _ h => h) (Or.inr ⟨by rfl, rfl⟩) rfl ?_
                  simp only [Act.put, List.setIfInBounds_toArray, List.set_cons_zero, List.set_cons_succ]
                  refine pure_ (i := 9) (N := some 61) #[true, true, true, true, true, true, true, true, false, true, false, false, false, false, false] rfl rfl (any_of HT_.out (by kernel_rfl)) (fun _ _ _ h => h) (Or.inr ⟨by rfl, rfl⟩) rfl ?_
                  simp only [Act.put, List.setIfInBounds_toArray, List.set_cons_zero, List.set_cons_succ]
                  refine take_ (i := 10) (N := some 62) #[true, true, true, true, true, true, true, true, false, true, true, false, false, false, false] rfl rfl (take_ofW HT_.out HW_.out (by kernel_rfl)) (fun _ _ _ h => h) (Or.inr ⟨by rfl, rfl⟩) hHeld rfl ?_
                  simp only [Act.put, List.setIfInBounds_toArray, List.set_cons_zero, List.set_cons_succ]
                  refine one_ (i := 8) (N := some 60) #[true, true, true, true, true, true, true, true, true, true, true, false, false, false, false] rfl rfl (one_of HT_.out (by kernel_rfl)) (by decide) (fun K hK => ?_)
                  refine hK.out _ _ ⟨KX.out.c0, KX.out.c1⟩ (fun hHeld => ?_)
                  clear hK K
                  simp only [Act.put, List.setIfInBounds_toArray, List.set_cons_zero, List.set_cons_succ]
                  refine one_ (i := 11) (N := some 63) #[true, true, true, true, true, true, true, true, true, true, true, true, false, false, false] rfl rfl (one_of HT_.out (by kernel_rfl)) (by decide) (fun K hK => ?_)
                  refine hK.out _ _ ⟨KX.out.c0, KX.out.c1⟩ (fun hHeld => ?_)
                  clear hK K
                  simp only [Act.put, List.setIfInBounds_toArray, List.set_cons_zero, List.set_cons_succ]
                  refine pure_ (i := 12) (N := some 64) #[true, true, true, true, true, true, true, true, true, true, true, true, true, false, false] rfl rfl (any_of HT_.out (by kernel_rfl)) (fun _ _ _ h => h) (Or.inr ⟨by rfl, rfl⟩) rfl ?_
                  simp only [Act.put, List.setIfInBounds_toArray, List.set_cons_zero, List.set_cons_succ]
                  refine pure_ (i := 13) (N := some 65) (v := .bool true) #[true, true, true, true, true, true, true, true, true, true, true, true, true, true, false] rfl rfl (any_of HT_.out (by kernel_rfl)) (fun _ _ _ h => h) (Or.inl ⟨by rfl, fun w' => by go_simp⟩) rfl ?_
                  simp only [Act.put, List.setIfInBounds_toArray, List.set_cons_zero, List.set_cons_succ]
                  refine pure_ (i := 14) (N := some 66) (v := .bool true) #[true, true, true, true, true, true, true, true, true, true, true, true, true, true, true] rfl rfl (any_of HT_.out (by kernel_rfl)) (fun _ _ _ h => h) (Or.inl ⟨by rfl, fun w' => by go_simp⟩) rfl ?_
                  simp only [Act.put, List.setIfInBounds_toArray, List.set_cons_zero, List.set_cons_succ]
                  refine done_ (done_of HT_.out (by kernel_rfl)) ?_
                  clear hHeld
                  have HPT := Aside0.mk (show parB m x = false from HPB.out)
                  clear HPB hq hnq
                  go_wp2
                  go_ret
                  refine ⟨?_, KW.out⟩
                  rw [HST.out, HPT.out]
                  rfl
                | true =>
                  obtain ⟨r, hr⟩ : ∃ r, (small (L pv) == small (L x.f1)) = r := ⟨_, rfl⟩
                  have hnr : ((M (small (L pv))).toList != (M (small (L x.f1))).toList) = !r := by rw [M_toList, M_toList]; unfold bne; rw [hr]
                  rw [hr] at HPB
                  refine pure_ (i := 0) (N := some 52) (v := .pointer (some ⟨n, 0, none⟩)) #[true, false, false, false, false, false, false, false, false, false, false, false, false, false, false] rfl rfl (any_of HT_.out (by kernel_rfl)) (fun _ _ _ h => h) (Or.inl ⟨by rfl, fun w' => by go_simp⟩) rfl ?_
                  simp only [Act.put, List.setIfInBounds_toArray, List.set_cons_zero, List.set_cons_succ]
                  refine take_ (i := 1) (N := some 53) (v := .string x.f0) #[true, true, false, false, false, false, false, false, false, false, false, false, false, false, false] rfl rfl (take_ofW HT_.out HW_.out (by kernel_rfl)) (fun _ _ _ h => h) (Or.inl ⟨by rfl, fun w' hS => by obtain ⟨s0, s1⟩ := hS; go_simp⟩) hHeld rfl ?_
                  simp only [Act.put, List.setIfInBounds_toArray, List.set_cons_zero, List.set_cons_succ]
                  refine pure_ (i := 2) (N := some 54) (v := .bool true) #[true, true, true, false, false, false, false, false, false, false, false, false, false, false, false] rfl rfl (any_of HT_.out (by kernel_rfl)) (fun _ _ _ h => h) (Or.inl ⟨by rfl, fun w' => by go_simp⟩) rfl ?_
                  simp only [Act.put, List.setIfInBounds_toArray, List.set_cons_zero, List.set_cons_succ]
                  refine pure_ (i := 3) (N := some 55) (v := .bool true) #[true, true, true, true, false, false, false, false, false, false, false, false, false, false, false] rfl rfl (any_of HT_.out (by kernel_rfl)) (fun _ _ _ h => h) (Or.inl ⟨by rfl, fun w' => by go_simp⟩) rfl ?_
                  simp only [Act.put, List.setIfInBounds_toArray, List.set_cons_zero, List.set_cons_succ]
                  refine pure_ (i := 4) (N := some 56) (v := .bool true) #[true, true, true, true, true, false, false, false, false, false, false, false, false, false, false] rfl rfl (any_of HT_.out (by kernel_rfl)) (fun _ _ _ h => h) (Or.inl ⟨by rfl, fun w' => by go_simp⟩) rfl ?_
                  simp only [Act.put, List.setIfInBounds_toArray, List.set_cons_zero, List.set_cons_succ]
                  refine pure_ (i := 5) (N := some 57) (v := .bool false) #[true, true, true, true, true, true, false, false, false, false, false, false, false, false, false] rfl rfl (any_of HT_.out (by kernel_rfl)) (fun _ _ _ h => h) (Or.inl ⟨by rfl, fun w' => by go_simp⟩) rfl ?_
                  simp only [Act.put, List.setIfInBounds_toArray, List.set_cons_zero, List.set_cons_succ]
                  refine pure_ (i := 6) (N := some 58) (v := .bool false) #[true, true, true, true, true, true, true, false, false, false, false, false, false, false, false] rfl rfl (any_of HT_.out (by kernel_rfl)) (fun _ _ _ h => h) (Or.inl ⟨by rfl, fun w' => by go_simp⟩) rfl ?_
                  simp only [Act.put, List.setIfInBounds_toArray, List.set_cons_zero, List.set_cons_succ]
                  refine pure_ (i := 7) (N := some 59) (v := .string pv) #[true, true, true, true, true, true, true, true, false, false, false, false, false, false, false] rfl rfl (any_of HT_.out (by kernel_rfl)) (fun _ _ _ h => h) (Or.inl ⟨by rfl, fun w' => by go_simp⟩) rfl ?_
                  simp only [Act.put, List.setIfInBounds_toArray, List.set_cons_zero, List.set_cons_succ]
                  refine pure_ (i := 9) (N := some 61) (v := .pointer (some ⟨n, 1, none⟩)) #[true, true, true, true, true, true, true, true, false, true, false, false, false, false, false] rfl rfl (any_of HT_.out (by kernel_rfl)) (fun _ _ _ h => h) (Or.inl ⟨by rfl, fun w' => by go_simp⟩) rfl ?_
                  simp only [Act.put, List.setIfInBounds_toArray, List.set_cons_zero, List.set_cons_succ]
                  refine take_ (i := 10) (N := some 62) (v := .string x.f1) #[true, true, true, true, true, true, true, true, false, true, true, false, false, false, false] rfl rfl (take_ofW HT_.out HW_.out (by kernel_rfl)) (fun _ _ _ h => h) (Or.inl ⟨by rfl, fun w' hS => by obtain ⟨s0, s1⟩ := hS; go_simp⟩) hHeld rfl ?_
                  simp only [Act.put, List.setIfInBounds_toArray, List.set_cons_zero, List.set_cons_succ]
                  refine one_ (i := 8) (N := some 60) #[true, true, true, true, true, true, true, true, true, true, true, false, false, false, false] rfl rfl (one_of HT_.out (by kernel_rfl)) (by decide) (fun K hK => ?_)
                  refine goes_ Tryz.func25 (by kernel_rfl) rfl #[.string pv] (by rfl) rfl rfl (by (try simp only [List.map_toArray, List.map_cons, List.map_nil]); first | done | rfl) ?_
                  with_reducible refine (small_calls pv _ HSV.out).mono ?_
                  rintro e_ v1 ⟨rfl, h⟩
                  replace KX := Aside0.mk (KX.out.below h)
                  replace KJ := Aside0.mk (KJ.out.below h)
                  replace KW := Aside0.mk (KW.out.trans (h.mono KW.out.size))
                  clear h
                  refine ⟨_, rfl, ?_⟩
                  refine hK.out _ _ ⟨KX.out.c0, KX.out.c1⟩ (fun hHeld => ?_)
                  clear hK K
                  simp only [Act.put, List.setIfInBounds_toArray, List.set_cons_zero, List.set_cons_succ]
                  refine one_ (i := 11) (N := some 63) #[true, true, true, true, true, true, true, true, true, true, true, true, false, false, false] rfl rfl (one_of HT_.out (by kernel_rfl)) (by decide) (fun K hK => ?_)
                  refine goes_ Tryz.func25 (by kernel_rfl) rfl #[.string x.f1] (by rfl) rfl rfl (by (try simp only [List.map_toArray, List.map_cons, List.map_nil]); first | done | rfl) ?_
                  with_reducible refine (small_calls x.f1 _ HSX.out).mono ?_
                  rintro e_ v2 ⟨rfl, h⟩
                  replace KX := Aside0.mk (KX.out.below h)
                  replace KJ := Aside0.mk (KJ.out.below h)
                  replace KW := Aside0.mk (KW.out.trans (h.mono KW.out.size))
                  clear h
                  refine ⟨_, rfl, ?_⟩
                  refine hK.out _ _ ⟨KX.out.c0, KX.out.c1⟩ (fun hHeld => ?_)
                  clear hK K
                  simp only [Act.put, List.setIfInBounds_toArray, List.set_cons_zero, List.set_cons_succ]
                  refine pure_ (i := 12) (N := some 64) (v := .bool (!r)) #[true, true, true, true, true, true, true, true, true, true, true, true, true, false, false] rfl rfl (any_of HT_.out (by kernel_rfl)) (fun _ _ _ h => h) (Or.inl ⟨by rfl, fun w' => by go_simp⟩) rfl ?_
                  simp only [Act.put, List.setIfInBounds_toArray, List.set_cons_zero, List.set_cons_succ]
                  refine pure_ (i := 13) (N := some 65) (v := .bool (!r)) #[true, true, true, true, true, true, true, true, true, true, true, true, true, true, false] rfl rfl (any_of HT_.out (by kernel_rfl)) (fun _ _ _ h => h) (Or.inl ⟨by rfl, fun w' => by go_simp⟩) rfl ?_
                  simp only [Act.put, List.setIfInBounds_toArray, List.set_cons_zero, List.set_cons_succ]
                  refine pure_ (i := 14) (N := some 66) (v := .bool (!r)) #[true, true, true, true, true, true, true, true, true, true, true, true, true, true, true] rfl rfl (any_of HT_.out (by kernel_rfl)) (fun _ _ _ h => h) (Or.inl ⟨by rfl, fun w' => by go_simp⟩) rfl ?_
                  simp only [Act.put, List.setIfInBounds_toArray, List.set_cons_zero, List.set_cons_succ]
                  refine done_ (done_of HT_.out (by kernel_rfl)) ?_
                  clear hHeld
                  have HPT := Aside0.mk (show parB m x = r from HPB.out)
                  clear HPB hq hnq hr hnr
                  cases r with
                  | true =>
                    go_wp2
                    go_roundg k2
                    case measure => omega
                    case rel => exact ⟨i + 1, congrArg (Value.int IntKind.i64) (show (i : Int) + 1 = ((i + 1 : Nat) : Int) from rfl), KJ, KW, ⟨by rw [HEQ.out, HPT.out]; rfl⟩, ⟨by have := HK2.out; omega, by omega⟩⟩
                  | false =>
                    go_wp2
                    go_ret
                    refine ⟨?_, KW.out⟩
                    rw [HST.out, HPT.out]
                    rfl
            · have hlt : decide ((i : Int) < (l.length : Int)) = false := decide_eq_false (by omega)
              have HF := Aside0.mk (show R = true from by rw [← HR2.out, HE.out, List.drop_eq_nil_of_le (by omega)]; rfl)
              go_wp2
              go_ret
              rw [HF.out]
              exact ⟨rfl, HB2.out⟩
end Go.Proofs.YtdecjlkfpbgkgaaGreatDoor.X
