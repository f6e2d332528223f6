/- media.Parse, walked by hand. -/
import Derived.Test.YtdecjlkfpbgkgaaGreatDoorXParams
namespace Go.Proofs.YtdecjlkfpbgkgaaGreatDoor.X
open Go.RowKit Go.Shelf Go.Proofs.YtdecjlkfpbgkgaaGreatDoorW.PrintWords Go.Proofs.YtdecjlkfpbgkgaaGreatDoorW.PrintLast Go.Proofs.YtdecjlkfpbgkgaaGreatDoorW.PrintMore Go.Proofs.YtdecjlkfpbgkgaaGreatDoor.F Go.Proofs.YtdecjlkfpbgkgaaGreatDoor.Pm
set_option linter.unusedVariables false
set_option linter.unusedSimpArgs false
/-- A variable of three cells. -/
def Tri (W : World) (n : Nat) (t : TypeId) (u v x : Value) : Prop := W.heap[n]? = some (.cells #[u, v, x] t (0, 0))
theorem Tri.new (W : World) (t : TypeId) (u v x : Value) : Tri (W.alloc (.cells #[u, v, x] t)) W.heap.size t u v x := World.alloc_heap_new W _
theorem Tri.lt {W : World} {n : Nat} {t : TypeId} {u v x : Value} (h : Tri W n t u v x) : n < W.heap.size := (Array.getElem?_eq_some_iff.1 h).1
theorem Tri.c0 {W : World} {n : Nat} {t : TypeId} {u v x : Value} (h : Tri W n t u v x) : W.cell? ⟨n, 0, none⟩ = some u := by simp [World.cell?, show W.heap[n]? = _ from h]
theorem Tri.c1 {W : World} {n : Nat} {t : TypeId} {u v x : Value} (h : Tri W n t u v x) : W.cell? ⟨n, 1, none⟩ = some v := by simp [World.cell?, show W.heap[n]? = _ from h]
theorem Tri.c2 {W : World} {n : Nat} {t : TypeId} {u v x : Value} (h : Tri W n t u v x) : W.cell? ⟨n, 2, none⟩ = some x := by simp [World.cell?, show W.heap[n]? = _ from h]
theorem Tri.f0 {W : World} {n : Nat} {t : TypeId} {u v x : Value} (h : Tri W n t u v x) (i : Nat) : W.frozen? ⟨n, i, none⟩ = false := by simp [World.frozen?, show W.heap[n]? = _ from h]
theorem Tri.below {W W' : World} {n : Nat} {t : TypeId} {u v x : Value} (h : Tri W n t u v x) (hb : Below W.heap.size W W') : Tri W' n t u v x := (hb.block n h.lt).trans h
theorem Tri.box {W : World} {n b : Nat} {t : TypeId} {u v x : Value} (h : Tri W n t u v x) (hne : n ≠ b) (y : Value) : Tri (W.setCell ⟨b, 0, none⟩ y) n t u v x := (Below.heap_setCell _ _ _ _ (by exact hne)).trans h
theorem Tri.call {W W' : World} {n b : Nat} {t : TypeId} {u v x y : Value} (h : Tri W n t u v x) (hne : n ≠ b) (hb : Below W.heap.size (W.setCell ⟨b, 0, none⟩ y) W') : Tri W' n t u v x := (h.box hne y).below (by rw [Deep.nblk_setCell]; exact hb)
theorem Tri.set0 {W : World} {n : Nat} {t : TypeId} {u v x : Value} (h : Tri W n t u v x) (y : Value) : Tri (W.setCell ⟨n, 0, none⟩ y) n t y v x := by
  obtain ⟨hlt, hk⟩ := Array.getElem?_eq_some_iff.1 h
  show (W.heap.modify n _)[n]? = _
  rw [Array.getElem?_eq_getElem (by rw [Array.size_modify]; exact hlt), Array.getElem_modify_self, hk]
  rfl
theorem Tri.set1 {W : World} {n : Nat} {t : TypeId} {u v x : Value} (h : Tri W n t u v x) (y : Value) : Tri (W.setCell ⟨n, 1, none⟩ y) n t u y x := by
  obtain ⟨hlt, hk⟩ := Array.getElem?_eq_some_iff.1 h
  show (W.heap.modify n _)[n]? = _
  rw [Array.getElem?_eq_getElem (by rw [Array.size_modify]; exact hlt), Array.getElem_modify_self, hk]
  rfl
theorem Tri.set2 {W : World} {n : Nat} {t : TypeId} {u v x : Value} (h : Tri W n t u v x) (y : Value) : Tri (W.setCell ⟨n, 2, none⟩ y) n t u v y := by
  obtain ⟨hlt, hk⟩ := Array.getElem?_eq_some_iff.1 h
  show (W.heap.modify n _)[n]? = _
  rw [Array.getElem?_eq_getElem (by rw [Array.size_modify]; exact hlt), Array.getElem_modify_self, hk]
  rfl
abbrev MR := ByteArray × ByteArray × List S38 × Int
/-- What Parse answers. -/
def parseV (s : Bs) : MR :=
  if (((skipL s).takeWhile tokB).isEmpty || !Lib.hasPrefix ((skipL s).dropWhile tokB) [47] || ((Lib.trimPrefix ((skipL s).dropWhile tokB) [47]).takeWhile tokB).isEmpty || !(paramsL ((Lib.trimPrefix ((skipL s).dropWhile tokB) [47]).dropWhile tokB)).isSome || ((skipL s).takeWhile tokB == [42] && !((Lib.trimPrefix ((skipL s).dropWhile tokB) [47]).takeWhile tokB == [42]))) = true
  then (⟨#[]⟩, ⟨#[]⟩, [], 130)
  else (M (small ((skipL s).takeWhile tokB)), M (small ((Lib.trimPrefix ((skipL s).dropWhile tokB) [47]).takeWhile tokB)), (paramsL ((Lib.trimPrefix ((skipL s).dropWhile tokB) [47]).dropWhile tokB)).getD [], 0)
set_option maxHeartbeats 8000000 in
set_option maxRecDepth 100000 in
theorem mparse_calls (s : ByteArray) (w : World) (hs : s.size ≤ 100000000) :
    Calls Tryz.prog 10 #[.string s] w fun e w' => ∃ v2_ : Value, e = .returned (.tuple #[.agg #[.string (parseV (L s)).1, .string (parseV (L s)).2.1, v2_], .int .i64 (parseV (L s)).2.2.2]) ∧ Kd.R k38 38 w' w.heap.size (fun _ => True) v2_ (parseV (L s)).2.2.1 ∧ Below w.heap.size w w' := by
  have hu25 := Tryz.underlying25
  have hz : (L s).length ≤ 100000000 := hs
  obtain ⟨R, hR⟩ : ∃ R, parseV (L s) = R := ⟨_, rfl⟩
  have HR := Aside0.mk hR
  rw [hR]
  clear hR
  have hbm := Tri.new w 25 (.string ⟨#[]⟩) (.string ⟨#[]⟩) (.slice none 0 0)
  obtain ⟨wa, hwa⟩ : ∃ x, w.alloc (.cells #[.string ⟨#[]⟩, .string ⟨#[]⟩, .slice none 0 0] 25) = x := ⟨_, rfl⟩
  have hsa : wa.heap.size = w.heap.size + 1 := by rw [← hwa, World.size_alloc]
  have hba : Below w.heap.size w wa := by rw [← hwa]; exact (Below.refl _ _).alloc (Nat.le_refl _) _
  rw [hwa] at hbm
  go_enter Tryz.func10, Tryz.ntmps10
  go_wp2_with fail
  have hb0 := Boxed.new wa 43 (.string s)
  rw [hsa] at hb0
  have hk0 := hbm.below ((Below.refl wa.heap.size wa).alloc (Nat.le_refl _) (.cells #[.string s] 43))
  have hB0 : Below w.heap.size w (wa.alloc (.cells #[.string s] 43)) := hba.alloc hba.size _
  have hs0 : (wa.alloc (.cells #[.string s] 43)).heap.size = w.heap.size + 2 := by rw [World.size_alloc, hsa]
  generalize wa.alloc (.cells #[.string s] 43) = W0 at hb0 hk0 hB0 hs0 ⊢
  clear hbm hwa hba hsa
  obtain ⟨b, hbe⟩ : ∃ b, w.heap.size + 1 = b := ⟨_, rfl⟩
  obtain ⟨g, hge⟩ : ∃ g, w.heap.size = g := ⟨_, rfl⟩
  rw [hbe] at hb0 ⊢
  have hne : g ≠ b := by omega
  rw [hge] at hk0 hB0 ⊢
  have HB0 := Aside0.mk hb0
  have HK0 := Aside0.mk hk0
  have HBW := Aside0.mk hB0
  have HBG := Aside0.mk (show g < b ∧ b < W0.heap.size ∧ g ≤ W0.heap.size from by omega)
  have HNE := Aside0.mk hne
  have HGE := Aside0.mk hge
  clear hb0 hk0 hB0 hs0 hbe hge hne
  refine (skip_calls b s W0 HB0.out).mono ?_
  rintro e w1 ⟨rfl, h1⟩
  obtain ⟨l0, hl0⟩ : ∃ l, skipL (L s) = l := ⟨_, rfl⟩
  have HN0 := Aside0.mk (show l0.length ≤ 100000000 from by rw [← hl0]; have := skip_le (L s); omega)
  have hE := HR.out
  unfold parseV at hE
  rw [hl0] at hE
  rw [show Lib.trimLeftS (L s) [32, 9] = l0 from hl0] at h1
  have HW1 := Aside0.mk h1
  have HK1 := Aside0.mk (HK0.out.call HNE.out h1)
  have HB1 := Aside0.mk (boxed_of HB0.out h1)
  clear h1 hl0 HR HK0
  have HR := Aside0.mk hE
  clear hE
  have hsz : (M l0).size < 4611686018427387904 := by show l0.length < _; have := HN0.out; omega
  go_wp2_with fail
  refine (token_calls b (M l0) w1 HB1.out hsz).mono ?_
  rintro e w2 ⟨rfl, qq⟩
  clear hsz
  have h2 : Below w1.heap.size (w1.setCell ⟨b, 0, none⟩ (.string (M (l0.dropWhile tokB)))) w2 := by rw [qq]; have := Below.refl (w1.setCell ⟨b, 0, none⟩ (.string (M (l0.dropWhile tokB)))).heap.size (w1.setCell ⟨b, 0, none⟩ (.string (M (l0.dropWhile tokB)))); rwa [Deep.nblk_setCell] at this
  clear qq
  rw [show (L (M l0)).takeWhile tokB = l0.takeWhile tokB from rfl]
  obtain ⟨a, ha⟩ : ∃ l, l0.takeWhile tokB = l := ⟨_, rfl⟩
  obtain ⟨l1, hl1⟩ : ∃ l, l0.dropWhile tokB = l := ⟨_, rfl⟩
  have HN1 := Aside0.mk (show a.length ≤ 100000000 ∧ l1.length ≤ 100000000 from by
    have h1 := (List.takeWhile_prefix tokB (l := l0)).length_le
    have h2 := (List.dropWhile_suffix tokB (l := l0)).length_le
    have := HN0.out
    rw [ha] at h1
    rw [hl1] at h2
    omega)
  have hE := HR.out
  rw [ha, hl1] at hE
  rw [hl1] at h2
  rw [ha]
  have HW2 := Aside0.mk (below_step HB0.out HW1.out h2)
  have HK2 := Aside0.mk (HK1.out.call HNE.out h2)
  clear h2 ha hl1 HR HW1 HK1 HB1
  have HR := Aside0.mk hE
  clear hE
  have HB2 := Aside0.mk (boxed_of HB0.out HW2.out)
  obtain ⟨x, hx⟩ : ∃ x, M a = x := ⟨_, rfl⟩
  rw [hx]
  go_wp2_with fail
  refine (take_calls b (M l1) ⟨#[47]⟩ w2 HB2.out).mono ?_
  rintro e w3 ⟨rfl, h3⟩
  obtain ⟨sl, hsl⟩ : ∃ q, Lib.hasPrefix l1 [47] = q := ⟨_, rfl⟩
  obtain ⟨l2, hl2⟩ : ∃ l, Lib.trimPrefix l1 [47] = l := ⟨_, rfl⟩
  have HN2 := Aside0.mk (show l2.length ≤ 100000000 from by rw [← hl2]; have := tp_le l1 [47]; have := HN1.out; omega)
  have hE := HR.out
  rw [hsl, hl2] at hE
  rw [show Lib.hasPrefix (L (M l1)) (L ⟨#[47]⟩) = sl from hsl]
  rw [show Lib.trimPrefix (L (M l1)) (L ⟨#[47]⟩) = l2 from hl2] at h3
  have HW3 := Aside0.mk (below_step HB0.out HW2.out h3)
  have HK3 := Aside0.mk (HK2.out.call HNE.out h3)
  clear h3 hsl hl2 HR HW2 HK2 HB2
  have HR := Aside0.mk hE
  clear hE
  have HB3 := Aside0.mk (boxed_of HB0.out HW3.out)
  have hsz : (M l2).size < 4611686018427387904 := by show l2.length < _; have := HN2.out; omega
  go_wp2_with fail
  refine (token_calls b (M l2) w3 HB3.out hsz).mono ?_
  rintro e w4 ⟨rfl, qq⟩
  clear hsz
  have h4 : Below w3.heap.size (w3.setCell ⟨b, 0, none⟩ (.string (M (l2.dropWhile tokB)))) w4 := by rw [qq]; have := Below.refl (w3.setCell ⟨b, 0, none⟩ (.string (M (l2.dropWhile tokB)))).heap.size (w3.setCell ⟨b, 0, none⟩ (.string (M (l2.dropWhile tokB)))); rwa [Deep.nblk_setCell] at this
  clear qq
  rw [show (L (M l2)).takeWhile tokB = l2.takeWhile tokB from rfl]
  obtain ⟨c, hc⟩ : ∃ l, l2.takeWhile tokB = l := ⟨_, rfl⟩
  obtain ⟨l3, hl3⟩ : ∃ l, l2.dropWhile tokB = l := ⟨_, rfl⟩
  have HN3 := Aside0.mk (show c.length ≤ 100000000 ∧ l3.length ≤ 100000000 from by
    have h1 := (List.takeWhile_prefix tokB (l := l2)).length_le
    have h2 := (List.dropWhile_suffix tokB (l := l2)).length_le
    have := HN2.out
    rw [hc] at h1
    rw [hl3] at h2
    omega)
  have hE := HR.out
  rw [hc, hl3] at hE
  rw [hl3] at h4
  rw [hc]
  have HW4 := Aside0.mk (below_step HB0.out HW3.out h4)
  have HK4 := Aside0.mk (HK3.out.call HNE.out h4)
  clear h4 hc hl3 HR HW3 HK3 HB3
  have HR := Aside0.mk hE
  clear hE
  have HB4 := Aside0.mk (boxed_of HB0.out HW4.out)
  obtain ⟨y, hy⟩ : ∃ y, M c = y := ⟨_, rfl⟩
  rw [hy]
  have hsz : (M l3).size ≤ 1000000000 := by show l3.length ≤ _; have := HN3.out; omega
  go_wp2_with fail
  refine (params_calls b (M l3) w4 HB4.out hsz).mono ?_
  rintro e w5 ⟨v0, rfl, hO, u, h5⟩
  clear hsz
  rw [show paramsL (L (M l3)) = paramsL l3 from rfl] at hO ⊢
  obtain ⟨o, ho⟩ : ∃ o, paramsL l3 = o := ⟨_, rfl⟩
  have hE := HR.out
  rw [ho] at hE hO
  rw [ho]
  have HO := Aside0.mk (Kd.R_lower (base' := g) hO (by have := HW4.out.size; rw [Deep.nblk_setCell] at this; have := HBG.out; omega))
  obtain ⟨A0, cc, hv0⟩ := Kd.R_slice HO.out
  subst hv0
  have HW5 := Aside0.mk (below_step HB0.out HW4.out h5)
  have HK5 := Aside0.mk (HK4.out.call HNE.out h5)
  clear h5 hO ho HR HW4 HK4 HB4
  obtain ⟨ok, hok⟩ : ∃ q, o.isSome = q := ⟨_, rfl⟩
  rw [hok] at hE ⊢
  obtain ⟨q1, hq1⟩ : ∃ q, a.isEmpty = q := ⟨_, rfl⟩
  obtain ⟨q3, hq3⟩ : ∃ q, c.isEmpty = q := ⟨_, rfl⟩
  obtain ⟨q5, hq5⟩ : ∃ q, (a == [42]) = q := ⟨_, rfl⟩
  obtain ⟨q6, hq6⟩ : ∃ q, (c == [42]) = q := ⟨_, rfl⟩
  rw [hq1, hq3, hq5, hq6] at hE
  have HBAD := Aside0.mk (fun h : (q1 || !sl || q3 || !ok || (q5 && !q6)) = true => (show ((⟨#[]⟩, ⟨#[]⟩, [], 130) : MR) = R from by rw [← hE, if_pos h]))
  have HGOOD := Aside0.mk (fun h : (q1 || !sl || q3 || !ok || (q5 && !q6)) = false => (show ((M (small a), M (small c), o.getD [], 0) : MR) = R from by rw [← hE, if_neg (by rw [h]; decide)]))
  have HFIN := Aside0.mk ((HBW.out.setCell (p := ⟨b, 0, none⟩) (show g ≤ b by have := HBG.out; omega) u).trans (HW5.out.mono HBG.out.2.2))
  have e1 : (x.toList == ([] : List UInt8)) = q1 := by rw [← hx, (M_empty a).2.1, hq1]
  have e2 : x.toList.isEmpty = q1 := by rw [← hx, (M_empty a).1, hq1]
  have e3 : (x.toList == [42]) = q5 := by rw [← hx, M_toList, hq5]
  have f1 : (y.toList == ([] : List UInt8)) = q3 := by rw [← hy, (M_empty c).2.1, hq3]
  have f2 : y.toList.isEmpty = q3 := by rw [← hy, (M_empty c).1, hq3]
  have f3 : (y.toList == [42]) = q6 := by rw [← hy, M_toList, hq6]
  have f4 : (y.toList != [42]) = !q6 := by unfold bne; rw [f3]
  have hx' : M (small (L x)) = M (small a) := by rw [← hx]
  have hy' : M (small (L y)) = M (small c) := by rw [← hy]
  have HX := Aside0.mk (show x.size ≤ 140737488355328 ∧ y.size ≤ 140737488355328 from by rw [← hx, ← hy]; show a.length ≤ _ ∧ c.length ≤ _; have := HN1.out; have := HN3.out; omega)
  have HXS := Aside0.mk hx'
  have HYS := Aside0.mk hy'
  clear hE hq1 hq3 hq5 hq6 hok hx hy hx' hy'
  have c0 := HK5.out.c0
  have c1 := HK5.out.c1
  have c2 := HK5.out.c2
  have fr := HK5.out.f0
  have fr0 := fr 0
  have fr1 := fr 1
  have fr2 := fr 2
  clear fr
  go_wp2_with fail
  all_goals first
    | (have hR := HBAD.out (by simp [*])
       have k3 := ((HK5.out.set0 (.string ⟨#[]⟩)).set1 (.string ⟨#[]⟩)).set2 (.slice none 0 0)
       have d0 := k3.c0
       have d1 := k3.c1
       have d2 := k3.c2
       refine bodyPost_ret (v := .tuple #[.agg #[.string ⟨#[]⟩, .string ⟨#[]⟩, .slice none 0 0], .int .i64 130]) ?_ rfl ⟨.slice none 0 0, ?_, ?_, ?_⟩
       · simp [results, Tryz.f10, go_sem, d0, d1, d2]
       · rw [← hR]
       · rw [← hR]; exact Kd.R_nil _ _ _ _ _
       · rw [HGE.out]; exact ((HFIN.out.setCell (p := ⟨g, 0, none⟩) (Nat.le_refl _) _).setCell (p := ⟨g, 1, none⟩) (Nat.le_refl _) _).setCell (p := ⟨g, 2, none⟩) (Nat.le_refl _) _)
    | (have HRR := Aside0.mk (HGOOD.out (by simp [*]))
       clear HBAD HGOOD
       refine (small_calls x w5 HX.out.1).mono ?_
       rintro e w6 ⟨rfl, h6⟩
       rw [HXS.out]
       have HK6 := Aside0.mk (HK5.out.below h6)
       have HO6 := Aside0.mk (Kd.R_below HO.out h6)
       have HF6 := Aside0.mk (HFIN.out.trans (h6.mono (by rw [← HGE.out]; exact HFIN.out.size)))
       clear h6 HK5 HO HFIN c0 c1 c2 fr0 fr1 fr2
       go_wp2_with fail
       refine (small_calls y w6 HX.out.2).mono ?_
       rintro e w7 ⟨rfl, h7⟩
       rw [HYS.out]
       have HK7 := Aside0.mk (HK6.out.below h7)
       have HO7 := Aside0.mk (Kd.R_below HO6.out h7)
       have HF7 := Aside0.mk (HF6.out.trans (h7.mono (by rw [← HGE.out]; exact HF6.out.size)))
       clear h7 HK6 HO6 HF6
       have c0 := HK7.out.c0
       have c1 := HK7.out.c1
       have c2 := HK7.out.c2
       have fr := HK7.out.f0
       have fr0 := fr 0
       have fr1 := fr 1
       have fr2 := fr 2
       clear fr
       go_wp2
       have k1 := HK7.out.set0 (.string (M (small a)))
       have k2 := k1.set1 (.string (M (small c)))
       have k3 := k2.set2 (Value.slice A0 (o.getD []).length cc)
       have d0 := k3.c0
       have d1 := k3.c1
       have d2 := k3.c2
       refine bodyPost_ret (v := .tuple #[.agg #[.string (M (small a)), .string (M (small c)), (Value.slice A0 (o.getD []).length cc)], .int .i64 0]) ?_ rfl ⟨(Value.slice A0 (o.getD []).length cc), ?_, ?_, ?_⟩
       · simp [results, Tryz.f10, go_sem, d0, d1, d2]
       · rw [← HRR.out]
       · rw [← HRR.out, HGE.out]; exact Kd.R_set (Kd.R_set (Kd.R_set HO7.out HK7.out (by decide) 0 _) k1 (by decide) 1 _) k2 (by decide) 2 _
       · rw [HGE.out]; exact ((HF7.out.setCell (p := ⟨g, 0, none⟩) (Nat.le_refl _) _).setCell (p := ⟨g, 1, none⟩) (Nat.le_refl _) _).setCell (p := ⟨g, 2, none⟩) (Nat.le_refl _) _)
end Go.Proofs.YtdecjlkfpbgkgaaGreatDoor.X
