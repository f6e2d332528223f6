/- media.Text's Params, walked by hand. media.Parse, walked by hand. media's quote and Print where every value is a token, walked by hand. media.Param, walked by hand. media.Fits, walked by hand. The law's awake, walked by hand: one road alone. -/
import Derived.Test.YtdecjlkfpbgkgaaGreatDoorXBase
import Derived.Test.YtdecjlkfpbgkgaaGreatDoorPm0
namespace Go.Proofs.YtdecjlkfpbgkgaaGreatDoor.X
open Go.RowKit Go.Shelf Go.Proofs.YtdecjlkfpbgkgaaGreatDoorW.PrintWords Go.Proofs.YtdecjlkfpbgkgaaGreatDoorW.PrintLast Go.Proofs.YtdecjlkfpbgkgaaGreatDoorW.PrintMore Go.Proofs.YtdecjlkfpbgkgaaGreatDoor.F Go.Proofs.YtdecjlkfpbgkgaaGreatDoor.Pm
set_option linter.unusedVariables false
set_option linter.unusedSimpArgs false
def skipL (l : Bs) : Bs := Lib.trimLeftS l [32, 9]
/-- The parameters at a text's head, which has no blanks there. -/
def paramsN : Nat → Bs → List S38 → Option (List S38)
  | 0, _, _ => none
  | f + 1, s, acc =>
    if s = [] then some acc
    else if Lib.hasPrefix s [59] = false then none
    else if (skipL (Lib.trimPrefix s [59])).takeWhile tokB = [] then none
    else if Lib.hasPrefix ((skipL (Lib.trimPrefix s [59])).dropWhile tokB) [61] = false then none
    else if (valueV (Lib.trimPrefix ((skipL (Lib.trimPrefix s [59])).dropWhile tokB) [61])).2.1 = false then none
    else paramsN f (skipL (valueV (Lib.trimPrefix ((skipL (Lib.trimPrefix s [59])).dropWhile tokB) [61])).2.2) (acc ++ [⟨M (small ((skipL (Lib.trimPrefix s [59])).takeWhile tokB)), M (valueV (Lib.trimPrefix ((skipL (Lib.trimPrefix s [59])).dropWhile tokB) [61])).1⟩])
def paramsL (s : Bs) : Option (List S38) := paramsN (s.length + 1) (skipL s) []
theorem skip_le (l : Bs) : (skipL l).length ≤ l.length := (List.dropWhile_suffix _).length_le
theorem hp_tp (s : Bs) (c : UInt8) (h : Lib.hasPrefix s [c] = true) : (Lib.trimPrefix s [c]).length + 1 = s.length := by
  unfold Lib.trimPrefix
  rw [if_pos h]
  cases s with
  | nil => cases h
  | cons a t => simp
theorem R_call {W W1 : World} {b base : Nat} {ok : Nat → Prop} {v t u : Value} {xs : List S38} (h : Kd.R k38 38 W base ok v xs) (hbx : Boxed W b 43 t) (hb : Below W.heap.size (W.setCell ⟨b, 0, none⟩ u) W1) : Kd.R k38 38 W1 base ok v xs :=
  Kd.R_below (Kd.R_set h hbx (by decide) 0 u) (by rw [Deep.nblk_setCell]; exact hb)
/-- What Params answers. -/
def ParR (b : Nat) (w : World) (o : Option (List S38)) (e : Ending) (w' : World) : Prop :=
  ∃ v0 : Value, e = .returned (.tuple #[v0, .bool o.isSome]) ∧ Kd.R k38 38 w' w.heap.size (fun _ => True) v0 (o.getD []) ∧ ∃ u : Value, Below w.heap.size (w.setCell ⟨b, 0, none⟩ u) w'
set_option maxHeartbeats 8000000 in
set_option maxRecDepth 100000 in
theorem params_calls (b : Nat) (s : ByteArray) (w : World) (hb : Boxed w b 43 (.string s)) (hs : s.size ≤ 1000000000) :
    Calls Tryz.prog 24 #[.pointer (some ⟨b, 0, none⟩)] w (ParR b w (paramsL (L s))) := by
  have HB0 := Lib.hid hb
  have hu38 := Tryz.underlying38
  obtain ⟨R, hR⟩ : ∃ R, paramsL (L s) = R := ⟨_, rfl⟩
  have HR := Aside0.mk hR
  rw [hR]
  clear hb hR
  go_enter Tryz.func24, Tryz.ntmps24
  go_wp2_with fail
  refine (skip_calls b s _ HB0.out).mono ?_
  rintro e w1 ⟨rfl, h1⟩
  have HW1 := Aside0.mk h1
  clear h1
  have hz : (L s).length = s.size := rfl
  have hz0 : (L s).length ≤ 1000000000 := hs
  go_wp2
  go_loopg [2] ((L s).length + 1) (fun kq v2 W => ∃ (cur : Bs) (acc : List S38), Aside0 (Below w.heap.size (w.setCell ⟨b, 0, none⟩ (.string (M cur))) W) ∧ Aside0 (Kd.R k38 38 W w.heap.size (fun _ => True) v2 acc) ∧ Aside0 (paramsN kq cur acc = R) ∧ Aside0 (cur.length < kq) ∧ Aside0 (acc.length + cur.length ≤ 1000000000))
  case atStart =>
    refine ⟨skipL (L s), [], HW1, ⟨Kd.R_nil _ _ _ _ _⟩, ⟨HR.out⟩, ⟨?_⟩, ⟨?_⟩⟩
    · have := skip_le (L s); omega
    · have := skip_le (L s); simp only [List.length_nil]; omega
  case round =>
    obtain ⟨cur, acc, HW, HO, HE, HK, HN⟩ := hrel
    cases gk with
    | zero => exact absurd HK.out (by omega)
    | succ k1 =>
      have hE := HE.out
      rw [paramsN] at hE
      have HBX := Aside0.mk (boxed_of HB0.out HW.out)
      by_cases c0 : cur = []
      · rw [if_pos c0] at hE
        subst c0
        have hc := HBX.out.cell
        have hf := HBX.out.frozen
        obtain ⟨m1, m2, m3⟩ := M_empty []
        have HR2 := Aside0.mk hE
        clear hE HE
        go_wp2
        go_ret2
        exact ⟨_, by rw [← HR2.out]; rfl, by rw [← HR2.out]; exact HO.out, _, HW.out⟩
      · rw [if_neg c0] at hE
        have hc := HBX.out.cell
        have hf := HBX.out.frozen
        obtain ⟨m1, m2, m3⟩ := M_empty cur
        have mc : cur.isEmpty = false := List.isEmpty_eq_false_iff.2 c0
        have mc2 : decide (cur = []) = false := decide_eq_false c0
        rw [mc] at m1 m2 m3
        have HR2 := Aside0.mk hE
        have HC0 := Aside0.mk c0
        clear hE HE
        go_wp2_with fail
        refine (take_calls b (M cur) ⟨#[59]⟩ _ HBX.out).mono ?_
        rintro e wA ⟨rfl, hA⟩
        have HWA := Aside0.mk (below_step HB0.out HW.out hA)
        have HOA := Aside0.mk (R_call HO.out HBX.out hA)
        clear hA hc hf m1 m2 m3 mc mc2 c0 HO HW HBX
        obtain ⟨q1, hq1⟩ : ∃ q, Lib.hasPrefix cur [59] = q := ⟨_, rfl⟩
        obtain ⟨l1, hl1⟩ : ∃ l, Lib.trimPrefix cur [59] = l := ⟨_, rfl⟩
        have HL1 := Aside0.mk (fun h : q1 = true => show l1.length + 1 = cur.length from by rw [← hl1]; exact hp_tp cur 59 (hq1.trans h))
        have hE := HR2.out
        rw [hq1, hl1] at hE
        rw [show Lib.hasPrefix (L (M cur)) (L ⟨#[59]⟩) = q1 from hq1]
        rw [show Lib.trimPrefix (L (M cur)) (L ⟨#[59]⟩) = l1 from hl1] at HWA
        clear hq1 hl1 HR2
        cases q1 with
        | false =>
          rw [if_pos rfl] at hE
          have HR2 := Aside0.mk hE
          clear hE
          go_wp2
          go_ret2
          exact ⟨_, by rw [← HR2.out]; rfl, by rw [← HR2.out]; exact Kd.R_nil _ _ _ _ _, _, HWA.out⟩
        | true =>
          rw [if_neg (by decide)] at hE
          have HR2 := Aside0.mk hE
          clear hE
          have HN1 := Aside0.mk (HL1.out rfl)
          clear HL1
          have HBA := Aside0.mk (boxed_of HB0.out HWA.out)
          go_wp2_with fail
          refine (skip_calls b (M l1) wA HBA.out).mono ?_
          rintro e wB ⟨rfl, hB⟩
          have HWB := Aside0.mk (below_step HB0.out HWA.out hB)
          have HOB := Aside0.mk (R_call HOA.out HBA.out hB)
          clear hB HWA HOA HBA
          obtain ⟨l2, hl2⟩ : ∃ l, skipL l1 = l := ⟨_, rfl⟩
          have HN2 := Aside0.mk (show l2.length ≤ l1.length from by rw [← hl2]; exact skip_le l1)
          rw [show Lib.trimLeftS (L (M l1)) [32, 9] = l2 from hl2] at HWB
          have hE := HR2.out
          rw [hl2] at hE
          clear HR2 hl2
          have HBB := Aside0.mk (boxed_of HB0.out HWB.out)
          have hsz : (M l2).size < 4611686018427387904 := by
            show l2.length < _
            have := HN2.out; have := HN1.out; have := HN.out
            omega
          have HR2 := Aside0.mk hE
          clear hE
          go_wp2_with fail
          refine (token_calls b (M l2) wB HBB.out hsz).mono ?_
          rintro e wC ⟨rfl, hC⟩
          clear hsz
          have hC2 : Below wB.heap.size (wB.setCell ⟨b, 0, none⟩ (.string (M (l2.dropWhile tokB)))) wC := by rw [hC]; have := Below.refl (wB.setCell ⟨b, 0, none⟩ (.string (M (l2.dropWhile tokB)))).heap.size (wB.setCell ⟨b, 0, none⟩ (.string (M (l2.dropWhile tokB)))); rwa [Deep.nblk_setCell] at this
          have HWC := Aside0.mk (below_step HB0.out HWB.out hC2)
          have HOC := Aside0.mk (R_call HOB.out HBB.out hC2)
          clear hC hC2 HWB HOB HBB
          rw [show (L (M l2)).takeWhile tokB = l2.takeWhile tokB from rfl]
          obtain ⟨n, hn⟩ : ∃ l, l2.takeWhile tokB = l := ⟨_, rfl⟩
          obtain ⟨l3, hl3⟩ : ∃ l, l2.dropWhile tokB = l := ⟨_, rfl⟩
          have HN3 := Aside0.mk (show n.length + l3.length = l2.length from by rw [← hn, ← hl3, ← List.length_append, List.takeWhile_append_dropWhile])
          have hE := HR2.out
          rw [hn, hl3] at hE
          rw [hl3] at HWC
          rw [hn]
          clear HR2 hn hl3
          have HBC := Aside0.mk (boxed_of HB0.out HWC.out)
          by_cases cn : n = []
          · rw [if_pos cn] at hE
            subst cn
            have HR2 := Aside0.mk hE
            clear hE
            obtain ⟨m1, m2, m3⟩ := M_empty []
            go_wp2
            go_ret2
            exact ⟨_, by rw [← HR2.out]; rfl, by rw [← HR2.out]; exact Kd.R_nil _ _ _ _ _, _, HWC.out⟩
          · rw [if_neg cn] at hE
            obtain ⟨m1, m2, m3⟩ := M_empty n
            rw [List.isEmpty_eq_false_iff.2 cn] at m1 m2 m3
            have HR2 := Aside0.mk hE
            clear hE
            have cn1 : decide (n = []) = false := decide_eq_false cn
            have cn2 : (n == []) = false := beq_eq_false_iff_ne.2 cn
            go_wp2_with fail
            refine (take_calls b (M l3) ⟨#[61]⟩ wC HBC.out).mono ?_
            rintro e wD ⟨rfl, hD⟩
            have HWD := Aside0.mk (below_step HB0.out HWC.out hD)
            have HOD := Aside0.mk (R_call HOC.out HBC.out hD)
            clear hD HWC HOC HBC m1 m2 m3
            obtain ⟨q2, hq2⟩ : ∃ q, Lib.hasPrefix l3 [61] = q := ⟨_, rfl⟩
            obtain ⟨l4, hl4⟩ : ∃ l, Lib.trimPrefix l3 [61] = l := ⟨_, rfl⟩
            have HN4 := Aside0.mk (show l4.length ≤ l3.length from by rw [← hl4]; exact tp_le l3 [61])
            have hE := HR2.out
            rw [hq2, hl4] at hE
            rw [show Lib.hasPrefix (L (M l3)) (L ⟨#[61]⟩) = q2 from hq2]
            rw [show Lib.trimPrefix (L (M l3)) (L ⟨#[61]⟩) = l4 from hl4] at HWD
            clear HR2 hq2 hl4
            cases q2 with
            | false =>
              rw [if_pos rfl] at hE
              have HR2 := Aside0.mk hE
              clear hE
              go_wp2
              go_ret2
              exact ⟨_, by rw [← HR2.out]; rfl, by rw [← HR2.out]; exact Kd.R_nil _ _ _ _ _, _, HWD.out⟩
            | true =>
              rw [if_neg (by decide)] at hE
              have HR2 := Aside0.mk hE
              clear hE
              have HBD := Aside0.mk (boxed_of HB0.out HWD.out)
              have hsz : (M l4).size ≤ 100000000000000 := by
                show l4.length ≤ _
                have := HN4.out; have := HN3.out; have := HN2.out; have := HN1.out; have := HN.out
                omega
              go_wp2_with fail
              refine (value_calls b (M l4) wD HBD.out hsz).mono ?_
              rintro e wE ⟨rfl, hE1⟩
              clear hsz
              have HWE := Aside0.mk (below_step HB0.out HWD.out hE1)
              have HOE := Aside0.mk (R_call HOD.out HBD.out hE1)
              clear hE1 HWD HOD HBD
              have HN5 := Aside0.mk (valueV_len l4)
              obtain ⟨v, hv⟩ : ∃ l, (valueV l4).1 = l := ⟨_, rfl⟩
              obtain ⟨ok, hok⟩ : ∃ l, (valueV l4).2.1 = l := ⟨_, rfl⟩
              obtain ⟨l5, hl5⟩ : ∃ l, (valueV l4).2.2 = l := ⟨_, rfl⟩
              have hE := HR2.out
              rw [hv, hok, hl5] at hE
              rw [hv, hl5] at HN5
              rw [show (valueV (L (M l4))).1 = v from hv, show (valueV (L (M l4))).2.1 = ok from hok]
              rw [show (valueV (L (M l4))).2.2 = l5 from hl5] at HWE
              clear HR2 hv hok hl5
              cases ok with
              | false =>
                rw [if_pos rfl] at hE
                have HR2 := Aside0.mk hE
                clear hE
                go_wp2
                go_ret2
                exact ⟨_, by rw [← HR2.out]; rfl, by rw [← HR2.out]; exact Kd.R_nil _ _ _ _ _, _, HWE.out⟩
              | true =>
                rw [if_neg (by decide)] at hE
                have HR2 := Aside0.mk hE
                clear hE
                have hsz : (M n).size ≤ 140737488355328 := by
                  show n.length ≤ _
                  have := HN3.out; have := HN2.out; have := HN1.out; have := HN.out
                  omega
                go_wp2_with fail
                refine (small_calls (M n) wE hsz).mono ?_
                rintro e wF ⟨rfl, hF⟩
                clear hsz
                have HWF := Aside0.mk (HWE.out.trans (hF.mono (by have := HWE.out.size; rw [Deep.nblk_setCell] at this; exact this)))
                have HOF := Aside0.mk (Kd.R_below HOE.out hF)
                clear hF HWE HOE
                rw [show small (L (M n)) = small n from rfl]
                go_wp2_with (first | ((with_reducible refine gate_builtin (b := .append) (xs := #[.tmp 36, .tmp 41]) rfl ?_); at_builtin; refine Kd.R_append k38 (w0 := w.setCell ⟨b, 0, none⟩ (.string (M l5))) (W := wF) w.heap.size rfl (.tmp 36) (.tmp 41) 23 38 (.agg #[.string ⟨#[]⟩, .string ⟨#[]⟩]) 32 rfl Tryz.underlying23 info38 rfl (by decide) (by omega) u2 acc (⟨M (small n), M v⟩ : S38) [.string (M (small n)), .string (M v)] (fun _ => True) (fun _ => False) rfl rfl ?aP (fun _ hk => hk.elim) ?aF ?aO ?aB ?aS ?aL ?_; (case aP => exact k38_mkM _ _ _ (⟨M (small n), M v⟩ : S38)); (case aB => exact HWF.out); (case aF => exact (fun _ _ => trivial)); (case aO => exact HOF.out); (case aS => have := HWF.out.size; rw [Deep.nblk_setCell] at this; exact this); (case aL => have := HN.out; omega); intro v9 w9 ho hb9 hg hat; have HO9 := Aside0.mk ho; have HW9 := Aside0.mk hb9; clear ho hb9 hg hat))
                have HB9 := Aside0.mk (boxed_of HB0.out HW9.out)
                refine (skip_calls b (M l5) w9 HB9.out).mono ?_
                rintro e wG ⟨rfl, hG⟩
                have HWG := Aside0.mk (below_step HB0.out HW9.out hG)
                have HOG := Aside0.mk (R_call HO9.out HB9.out hG)
                clear hG HW9 HO9 HB9 HWF HOF
                go_wp2
                go_roundg k1
                case measure => omega
                case rel =>
                  refine ⟨skipL l5, acc ++ [⟨M (small n), M v⟩], HWG, HOG, HR2, ⟨?_⟩, ⟨?_⟩⟩
                  · have h1 := skip_le l5; have := HN5.out; have := HN4.out; have := HN3.out; have := HN2.out; have := HN1.out; have := HK.out; omega
                  · have h1 := skip_le l5; have := HN5.out; have := HN4.out; have := HN3.out; have := HN2.out; have := HN1.out; have := HN.out; rw [List.length_append, List.length_singleton]; omega
end Go.Proofs.YtdecjlkfpbgkgaaGreatDoor.X
namespace Go.Proofs.YtdecjlkfpbgkgaaGreatDoor.X
open Go.RowKit Go.Shelf Go.Proofs.YtdecjlkfpbgkgaaGreatDoorW.PrintWords Go.Proofs.YtdecjlkfpbgkgaaGreatDoorW.PrintLast Go.Proofs.YtdecjlkfpbgkgaaGreatDoorW.PrintMore Go.Proofs.YtdecjlkfpbgkgaaGreatDoor.F Go.Proofs.YtdecjlkfpbgkgaaGreatDoor.Pm
set_option linter.unusedVariables false
set_option linter.unusedSimpArgs false
/-- A variable of three cells. -/
def Tri (W : World) (n : Nat) (t : TypeId) (u v x : Value) : Prop := W.heap[n]? = some (.cells #[u, v, x] t (0, 0))
theorem Tri.new (W : World) (t : TypeId) (u v x : Value) : Tri (W.alloc (.cells #[u, v, x] t)) W.heap.size t u v x := World.alloc_heap_new W _
theorem Tri.lt {W : World} {n : Nat} {t : TypeId} {u v x : Value} (h : Tri W n t u v x) : n < W.heap.size := (Array.getElem?_eq_some_iff.1 h).1
theorem Tri.c0 {W : World} {n : Nat} {t : TypeId} {u v x : Value} (h : Tri W n t u v x) : W.cell? ⟨n, 0, none⟩ = some u := by simp [World.cell?, show W.heap[n]? = _ from h]
theorem Tri.c1 {W : World} {n : Nat} {t : TypeId} {u v x : Value} (h : Tri W n t u v x) : W.cell? ⟨n, 1, none⟩ = some v := by simp [World.cell?, show W.heap[n]? = _ from h]
theorem Tri.c2 {W : World} {n : Nat} {t : TypeId} {u v x : Value} (h : Tri W n t u v x) : W.cell? ⟨n, 2, none⟩ = some x := by simp [World.cell?, show W.heap[n]? = _ from h]
theorem Tri.f0 {W : World} {n : Nat} {t : TypeId} {u v x : Value} (h : Tri W n t u v x) (i : Nat) : W.frozen? ⟨n, i, none⟩ = false := by simp [World.frozen?, show W.heap[n]? = _ from h]
theorem Tri.below {W W' : World} {n : Nat} {t : TypeId} {u v x : Value} (h : Tri W n t u v x) (hb : Below W.heap.size W W') : Tri W' n t u v x := (hb.block n h.lt).trans h
theorem Tri.box {W : World} {n b : Nat} {t : TypeId} {u v x : Value} (h : Tri W n t u v x) (hne : n ≠ b) (y : Value) : Tri (W.setCell ⟨b, 0, none⟩ y) n t u v x := (Below.heap_setCell _ _ _ _ (by exact hne)).trans h
theorem Tri.call {W W' : World} {n b : Nat} {t : TypeId} {u v x y : Value} (h : Tri W n t u v x) (hne : n ≠ b) (hb : Below W.heap.size (W.setCell ⟨b, 0, none⟩ y) W') : Tri W' n t u v x := (h.box hne y).below (by rw [Deep.nblk_setCell]; exact hb)
theorem Tri.set0 {W : World} {n : Nat} {t : TypeId} {u v x : Value} (h : Tri W n t u v x) (y : Value) : Tri (W.setCell ⟨n, 0, none⟩ y) n t y v x := by
  obtain ⟨hlt, hk⟩ := Array.getElem?_eq_some_iff.1 h
  show (W.heap.modify n _)[n]? = _
  rw [Array.getElem?_eq_getElem (by rw [Array.size_modify]; exact hlt), Array.getElem_modify_self, hk]
  rfl
theorem Tri.set1 {W : World} {n : Nat} {t : TypeId} {u v x : Value} (h : Tri W n t u v x) (y : Value) : Tri (W.setCell ⟨n, 1, none⟩ y) n t u y x := by
  obtain ⟨hlt, hk⟩ := Array.getElem?_eq_some_iff.1 h
  show (W.heap.modify n _)[n]? = _
  rw [Array.getElem?_eq_getElem (by rw [Array.size_modify]; exact hlt), Array.getElem_modify_self, hk]
  rfl
theorem Tri.set2 {W : World} {n : Nat} {t : TypeId} {u v x : Value} (h : Tri W n t u v x) (y : Value) : Tri (W.setCell ⟨n, 2, none⟩ y) n t u v y := by
  obtain ⟨hlt, hk⟩ := Array.getElem?_eq_some_iff.1 h
  show (W.heap.modify n _)[n]? = _
  rw [Array.getElem?_eq_getElem (by rw [Array.size_modify]; exact hlt), Array.getElem_modify_self, hk]
  rfl
abbrev MR := ByteArray × ByteArray × List S38 × Int
/-- What Parse answers. -/
def parseV (s : Bs) : MR :=
  if (((skipL s).takeWhile tokB).isEmpty || !Lib.hasPrefix ((skipL s).dropWhile tokB) [47] || ((Lib.trimPrefix ((skipL s).dropWhile tokB) [47]).takeWhile tokB).isEmpty || !(paramsL ((Lib.trimPrefix ((skipL s).dropWhile tokB) [47]).dropWhile tokB)).isSome || ((skipL s).takeWhile tokB == [42] && !((Lib.trimPrefix ((skipL s).dropWhile tokB) [47]).takeWhile tokB == [42]))) = true
  then (⟨#[]⟩, ⟨#[]⟩, [], 130)
  else (M (small ((skipL s).takeWhile tokB)), M (small ((Lib.trimPrefix ((skipL s).dropWhile tokB) [47]).takeWhile tokB)), (paramsL ((Lib.trimPrefix ((skipL s).dropWhile tokB) [47]).dropWhile tokB)).getD [], 0)
set_option maxHeartbeats 8000000 in
set_option maxRecDepth 100000 in
theorem mparse_calls (s : ByteArray) (w : World) (hs : s.size ≤ 100000000) :
    Calls Tryz.prog 10 #[.string s] w fun e w' => ∃ v2_ : Value, e = .returned (.tuple #[.agg #[.string (parseV (L s)).1, .string (parseV (L s)).2.1, v2_], .int .i64 (parseV (L s)).2.2.2]) ∧ Kd.R k38 38 w' w.heap.size (fun _ => True) v2_ (parseV (L s)).2.2.1 ∧ Below w.heap.size w w' := by
  have hu25 := Tryz.underlying25
  have hz : (L s).length ≤ 100000000 := hs
  obtain ⟨R, hR⟩ : ∃ R, parseV (L s) = R := ⟨_, rfl⟩
  have HR := Aside0.mk hR
  rw [hR]
  clear hR
  have hbm := Tri.new w 25 (.string ⟨#[]⟩) (.string ⟨#[]⟩) (.slice none 0 0)
  obtain ⟨wa, hwa⟩ : ∃ x, w.alloc (.cells #[.string ⟨#[]⟩, .string ⟨#[]⟩, .slice none 0 0] 25) = x := ⟨_, rfl⟩
  have hsa : wa.heap.size = w.heap.size + 1 := by rw [← hwa, World.size_alloc]
  have hba : Below w.heap.size w wa := by rw [← hwa]; exact (Below.refl _ _).alloc (Nat.le_refl _) _
  rw [hwa] at hbm
  go_enter Tryz.func10, Tryz.ntmps10
  go_wp2_with fail
  have hb0 := Boxed.new wa 43 (.string s)
  rw [hsa] at hb0
  have hk0 := hbm.below ((Below.refl wa.heap.size wa).alloc (Nat.le_refl _) (.cells #[.string s] 43))
  have hB0 : Below w.heap.size w (wa.alloc (.cells #[.string s] 43)) := hba.alloc hba.size _
  have hs0 : (wa.alloc (.cells #[.string s] 43)).heap.size = w.heap.size + 2 := by rw [World.size_alloc, hsa]
  generalize wa.alloc (.cells #[.string s] 43) = W0 at hb0 hk0 hB0 hs0 ⊢
  clear hbm hwa hba hsa
  obtain ⟨b, hbe⟩ : ∃ b, w.heap.size + 1 = b := ⟨_, rfl⟩
  obtain ⟨g, hge⟩ : ∃ g, w.heap.size = g := ⟨_, rfl⟩
  rw [hbe] at hb0 ⊢
  have hne : g ≠ b := by omega
  rw [hge] at hk0 hB0 ⊢
  have HB0 := Aside0.mk hb0
  have HK0 := Aside0.mk hk0
  have HBW := Aside0.mk hB0
  have HBG := Aside0.mk (show g < b ∧ b < W0.heap.size ∧ g ≤ W0.heap.size from by omega)
  have HNE := Aside0.mk hne
  have HGE := Aside0.mk hge
  clear hb0 hk0 hB0 hs0 hbe hge hne
  refine (skip_calls b s W0 HB0.out).mono ?_
  rintro e w1 ⟨rfl, h1⟩
  obtain ⟨l0, hl0⟩ : ∃ l, skipL (L s) = l := ⟨_, rfl⟩
  have HN0 := Aside0.mk (show l0.length ≤ 100000000 from by rw [← hl0]; have := skip_le (L s); omega)
  have hE := HR.out
  unfold parseV at hE
  rw [hl0] at hE
  rw [show Lib.trimLeftS (L s) [32, 9] = l0 from hl0] at h1
  have HW1 := Aside0.mk h1
  have HK1 := Aside0.mk (HK0.out.call HNE.out h1)
  have HB1 := Aside0.mk (boxed_of HB0.out h1)
  clear h1 hl0 HR HK0
  have HR := Aside0.mk hE
  clear hE
  have hsz : (M l0).size < 4611686018427387904 := by show l0.length < _; have := HN0.out; omega
  go_wp2_with fail
  refine (token_calls b (M l0) w1 HB1.out hsz).mono ?_
  rintro e w2 ⟨rfl, qq⟩
  clear hsz
  have h2 : Below w1.heap.size (w1.setCell ⟨b, 0, none⟩ (.string (M (l0.dropWhile tokB)))) w2 := by rw [qq]; have := Below.refl (w1.setCell ⟨b, 0, none⟩ (.string (M (l0.dropWhile tokB)))).heap.size (w1.setCell ⟨b, 0, none⟩ (.string (M (l0.dropWhile tokB)))); rwa [Deep.nblk_setCell] at this
  clear qq
  rw [show (L (M l0)).takeWhile tokB = l0.takeWhile tokB from rfl]
  obtain ⟨a, ha⟩ : ∃ l, l0.takeWhile tokB = l := ⟨_, rfl⟩
  obtain ⟨l1, hl1⟩ : ∃ l, l0.dropWhile tokB = l := ⟨_, rfl⟩
  have HN1 := Aside0.mk (show a.length ≤ 100000000 ∧ l1.length ≤ 100000000 from by
    have h1 := (List.takeWhile_prefix tokB (l := l0)).length_le
    have h2 := (List.dropWhile_suffix tokB (l := l0)).length_le
    have := HN0.out
    rw [ha] at h1
    rw [hl1] at h2
    omega)
  have hE := HR.out
  rw [ha, hl1] at hE
  rw [hl1] at h2
  rw [ha]
  have HW2 := Aside0.mk (below_step HB0.out HW1.out h2)
  have HK2 := Aside0.mk (HK1.out.call HNE.out h2)
  clear h2 ha hl1 HR HW1 HK1 HB1
  have HR := Aside0.mk hE
  clear hE
  have HB2 := Aside0.mk (boxed_of HB0.out HW2.out)
  obtain ⟨x, hx⟩ : ∃ x, M a = x := ⟨_, rfl⟩
  rw [hx]
  go_wp2_with fail
  refine (take_calls b (M l1) ⟨#[47]⟩ w2 HB2.out).mono ?_
  rintro e w3 ⟨rfl, h3⟩
  obtain ⟨sl, hsl⟩ : ∃ q, Lib.hasPrefix l1 [47] = q := ⟨_, rfl⟩
  obtain ⟨l2, hl2⟩ : ∃ l, Lib.trimPrefix l1 [47] = l := ⟨_, rfl⟩
  have HN2 := Aside0.mk (show l2.length ≤ 100000000 from by rw [← hl2]; have := tp_le l1 [47]; have := HN1.out; omega)
  have hE := HR.out
  rw [hsl, hl2] at hE
  rw [show Lib.hasPrefix (L (M l1)) (L ⟨#[47]⟩) = sl from hsl]
  rw [show Lib.trimPrefix (L (M l1)) (L ⟨#[47]⟩) = l2 from hl2] at h3
  have HW3 := Aside0.mk (below_step HB0.out HW2.out h3)
  have HK3 := Aside0.mk (HK2.out.call HNE.out h3)
  clear h3 hsl hl2 HR HW2 HK2 HB2
  have HR := Aside0.mk hE
  clear hE
  have HB3 := Aside0.mk (boxed_of HB0.out HW3.out)
  have hsz : (M l2).size < 4611686018427387904 := by show l2.length < _; have := HN2.out; omega
  go_wp2_with fail
  refine (token_calls b (M l2) w3 HB3.out hsz).mono ?_
  rintro e w4 ⟨rfl, qq⟩
  clear hsz
  have h4 : Below w3.heap.size (w3.setCell ⟨b, 0, none⟩ (.string (M (l2.dropWhile tokB)))) w4 := by rw [qq]; have := Below.refl (w3.setCell ⟨b, 0, none⟩ (.string (M (l2.dropWhile tokB)))).heap.size (w3.setCell ⟨b, 0, none⟩ (.string (M (l2.dropWhile tokB)))); rwa [Deep.nblk_setCell] at this
  clear qq
  rw [show (L (M l2)).takeWhile tokB = l2.takeWhile tokB from rfl]
  obtain ⟨c, hc⟩ : ∃ l, l2.takeWhile tokB = l := ⟨_, rfl⟩
  obtain ⟨l3, hl3⟩ : ∃ l, l2.dropWhile tokB = l := ⟨_, rfl⟩
  have HN3 := Aside0.mk (show c.length ≤ 100000000 ∧ l3.length ≤ 100000000 from by
    have h1 := (List.takeWhile_prefix tokB (l := l2)).length_le
    have h2 := (List.dropWhile_suffix tokB (l := l2)).length_le
    have := HN2.out
    rw [hc] at h1
    rw [hl3] at h2
    omega)
  have hE := HR.out
  rw [hc, hl3] at hE
  rw [hl3] at h4
  rw [hc]
  have HW4 := Aside0.mk (below_step HB0.out HW3.out h4)
  have HK4 := Aside0.mk (HK3.out.call HNE.out h4)
  clear h4 hc hl3 HR HW3 HK3 HB3
  have HR := Aside0.mk hE
  clear hE
  have HB4 := Aside0.mk (boxed_of HB0.out HW4.out)
  obtain ⟨y, hy⟩ : ∃ y, M c = y := ⟨_, rfl⟩
  rw [hy]
  have hsz : (M l3).size ≤ 1000000000 := by show l3.length ≤ _; have := HN3.out; omega
  go_wp2_with fail
  refine (params_calls b (M l3) w4 HB4.out hsz).mono ?_
  rintro e w5 ⟨v0, rfl, hO, u, h5⟩
  clear hsz
  rw [show paramsL (L (M l3)) = paramsL l3 from rfl] at hO ⊢
  obtain ⟨o, ho⟩ : ∃ o, paramsL l3 = o := ⟨_, rfl⟩
  have hE := HR.out
  rw [ho] at hE hO
  rw [ho]
  have HO := Aside0.mk (Kd.R_lower (base' := g) hO (by have := HW4.out.size; rw [Deep.nblk_setCell] at this; have := HBG.out; omega))
  obtain ⟨A0, cc, hv0⟩ := Kd.R_slice HO.out
  subst hv0
  have HW5 := Aside0.mk (below_step HB0.out HW4.out h5)
  have HK5 := Aside0.mk (HK4.out.call HNE.out h5)
  clear h5 hO ho HR HW4 HK4 HB4
  obtain ⟨ok, hok⟩ : ∃ q, o.isSome = q := ⟨_, rfl⟩
  rw [hok] at hE ⊢
  obtain ⟨q1, hq1⟩ : ∃ q, a.isEmpty = q := ⟨_, rfl⟩
  obtain ⟨q3, hq3⟩ : ∃ q, c.isEmpty = q := ⟨_, rfl⟩
  obtain ⟨q5, hq5⟩ : ∃ q, (a == [42]) = q := ⟨_, rfl⟩
  obtain ⟨q6, hq6⟩ : ∃ q, (c == [42]) = q := ⟨_, rfl⟩
  rw [hq1, hq3, hq5, hq6] at hE
  have HBAD := Aside0.mk (fun h : (q1 || !sl || q3 || !ok || (q5 && !q6)) = true => (show ((⟨#[]⟩, ⟨#[]⟩, [], 130) : MR) = R from by rw [← hE, if_pos h]))
  have HGOOD := Aside0.mk (fun h : (q1 || !sl || q3 || !ok || (q5 && !q6)) = false => (show ((M (small a), M (small c), o.getD [], 0) : MR) = R from by rw [← hE, if_neg (by rw [h]; decide)]))
  have HFIN := Aside0.mk ((HBW.out.setCell (p := ⟨b, 0, none⟩) (show g ≤ b by have := HBG.out; omega) u).trans (HW5.out.mono HBG.out.2.2))
  have e1 : (x.toList == ([] : List UInt8)) = q1 := by rw [← hx, (M_empty a).2.1, hq1]
  have e2 : x.toList.isEmpty = q1 := by rw [← hx, (M_empty a).1, hq1]
  have e3 : (x.toList == [42]) = q5 := by rw [← hx, M_toList, hq5]
  have f1 : (y.toList == ([] : List UInt8)) = q3 := by rw [← hy, (M_empty c).2.1, hq3]
  have f2 : y.toList.isEmpty = q3 := by rw [← hy, (M_empty c).1, hq3]
  have f3 : (y.toList == [42]) = q6 := by rw [← hy, M_toList, hq6]
  have f4 : (y.toList != [42]) = !q6 := by unfold bne; rw [f3]
  have hx' : M (small (L x)) = M (small a) := by rw [← hx]
  have hy' : M (small (L y)) = M (small c) := by rw [← hy]
  have HX := Aside0.mk (show x.size ≤ 140737488355328 ∧ y.size ≤ 140737488355328 from by rw [← hx, ← hy]; show a.length ≤ _ ∧ c.length ≤ _; have := HN1.out; have := HN3.out; omega)
  have HXS := Aside0.mk hx'
  have HYS := Aside0.mk hy'
  clear hE hq1 hq3 hq5 hq6 hok hx hy hx' hy'
  have c0 := HK5.out.c0
  have c1 := HK5.out.c1
  have c2 := HK5.out.c2
  have fr := HK5.out.f0
  have fr0 := fr 0
  have fr1 := fr 1
  have fr2 := fr 2
  clear fr
  go_wp2_with fail
  all_goals first
    | (have hR := HBAD.out (by simp [*])
       have k3 := ((HK5.out.set0 (.string ⟨#[]⟩)).set1 (.string ⟨#[]⟩)).set2 (.slice none 0 0)
       have d0 := k3.c0
       have d1 := k3.c1
       have d2 := k3.c2
       refine bodyPost_ret (v := .tuple #[.agg #[.string ⟨#[]⟩, .string ⟨#[]⟩, .slice none 0 0], .int .i64 130]) ?_ rfl ⟨.slice none 0 0, ?_, ?_, ?_⟩
       · simp [results, Tryz.f10, go_sem, d0, d1, d2]
       · rw [← hR]
       · rw [← hR]; exact Kd.R_nil _ _ _ _ _
       · rw [HGE.out]; exact ((HFIN.out.setCell (p := ⟨g, 0, none⟩) (Nat.le_refl _) _).setCell (p := ⟨g, 1, none⟩) (Nat.le_refl _) _).setCell (p := ⟨g, 2, none⟩) (Nat.le_refl _) _)
    | (have HRR := Aside0.mk (HGOOD.out (by simp [*]))
       clear HBAD HGOOD
       refine (small_calls x w5 HX.out.1).mono ?_
       rintro e w6 ⟨rfl, h6⟩
       rw [HXS.out]
       have HK6 := Aside0.mk (HK5.out.below h6)
       have HO6 := Aside0.mk (Kd.R_below HO.out h6)
       have HF6 := Aside0.mk (HFIN.out.trans (h6.mono (by rw [← HGE.out]; exact HFIN.out.size)))
       clear h6 HK5 HO HFIN c0 c1 c2 fr0 fr1 fr2
       go_wp2_with fail
       refine (small_calls y w6 HX.out.2).mono ?_
       rintro e w7 ⟨rfl, h7⟩
       rw [HYS.out]
       have HK7 := Aside0.mk (HK6.out.below h7)
       have HO7 := Aside0.mk (Kd.R_below HO6.out h7)
       have HF7 := Aside0.mk (HF6.out.trans (h7.mono (by rw [← HGE.out]; exact HF6.out.size)))
       clear h7 HK6 HO6 HF6
       have c0 := HK7.out.c0
       have c1 := HK7.out.c1
       have c2 := HK7.out.c2
       have fr := HK7.out.f0
       have fr0 := fr 0
       have fr1 := fr 1
       have fr2 := fr 2
       clear fr
       go_wp2
       have k1 := HK7.out.set0 (.string (M (small a)))
       have k2 := k1.set1 (.string (M (small c)))
       have k3 := k2.set2 (Value.slice A0 (o.getD []).length cc)
       have d0 := k3.c0
       have d1 := k3.c1
       have d2 := k3.c2
       refine bodyPost_ret (v := .tuple #[.agg #[.string (M (small a)), .string (M (small c)), (Value.slice A0 (o.getD []).length cc)], .int .i64 0]) ?_ rfl ⟨(Value.slice A0 (o.getD []).length cc), ?_, ?_, ?_⟩
       · simp [results, Tryz.f10, go_sem, d0, d1, d2]
       · rw [← HRR.out]
       · rw [← HRR.out, HGE.out]; exact Kd.R_set (Kd.R_set (Kd.R_set HO7.out HK7.out (by decide) 0 _) k1 (by decide) 1 _) k2 (by decide) 2 _
       · rw [HGE.out]; exact ((HF7.out.setCell (p := ⟨g, 0, none⟩) (Nat.le_refl _) _).setCell (p := ⟨g, 1, none⟩) (Nat.le_refl _) _).setCell (p := ⟨g, 2, none⟩) (Nat.le_refl _) _)
end Go.Proofs.YtdecjlkfpbgkgaaGreatDoor.X
namespace Go.Proofs.YtdecjlkfpbgkgaaGreatDoor.X
open Go.RowKit Go.Shelf Go.Proofs.YtdecjlkfpbgkgaaGreatDoorW.PrintWords Go.Proofs.YtdecjlkfpbgkgaaGreatDoorW.PrintLast Go.Proofs.YtdecjlkfpbgkgaaGreatDoorW.PrintMore Go.Proofs.YtdecjlkfpbgkgaaGreatDoor.F Go.Proofs.YtdecjlkfpbgkgaaGreatDoor.Pm
set_option linter.unusedVariables false
set_option linter.unusedSimpArgs false
theorem tok_parts (l : Bs) (h : fieldTok l = true) : l.takeWhile tokB = l ∧ l.dropWhile tokB = [] ∧ l ≠ [] := by
  unfold fieldTok at h
  rw [Bool.and_eq_true] at h
  have h2 : l.dropWhile tokB = [] := List.isEmpty_iff.1 h.2
  have e := List.takeWhile_append_dropWhile (p := tokB) (l := l)
  rw [h2, List.append_nil] at e
  refine ⟨e, h2, ?_⟩
  rintro rfl
  cases h.1
set_option maxHeartbeats 4000000 in
set_option maxRecDepth 100000 in
theorem quote_tok (v : ByteArray) (w : World) (hv : fieldTok (L v) = true) (hs : v.size < 4611686018427387904) :
    Calls Tryz.prog 32 #[.string v] w fun e w' => e = .returned (.string v) ∧ Below w.heap.size w w' := by
  have hb := Boxed.new w 43 (.string v)
  have hB0 : Below w.heap.size w (w.alloc (.cells #[.string v] 43)) := (Below.refl _ _).alloc (Nat.le_refl _) _
  obtain ⟨p1, p2, p3⟩ := tok_parts _ hv
  have HP1 := Aside0.mk p1
  have HP2 := Aside0.mk p2
  have HB := Aside0.mk hb
  have HBE := Aside0.mk hB0
  obtain ⟨m1, m2, m3⟩ := M_empty (L v)
  have mc : (L v).isEmpty = false := List.isEmpty_eq_false_iff.2 p3
  rw [mc] at m1 m2 m3
  have q1 : v.toList.isEmpty = false := m1
  have q2 : (v.toList == ([] : List UInt8)) = false := m2
  have q3 : (v.toList != ([] : List UInt8)) = true := m3
  clear p1 p2 p3 hb hB0 hv m1 m2 m3 mc
  go_enter Tryz.func32, Tryz.ntmps32
  go_wp2_with fail
  refine (token_calls w.heap.size v _ HB.out hs).mono ?_
  rintro e w2 ⟨rfl, h2⟩
  rw [HP2.out] at h2
  rw [show M ((L v).takeWhile tokB) = v from by rw [HP1.out]]
  have hb2 : Boxed w2 w.heap.size 43 (.string (M [])) := by rw [h2]; exact HB.out.set _
  have hB2 : Below w.heap.size w w2 := by rw [h2]; exact HBE.out.setCell (p := ⟨w.heap.size, 0, none⟩) (Nat.le_refl _) _
  have HB2 := Aside0.mk hB2
  have hc := hb2.cell
  have hf := hb2.frozen
  obtain ⟨n1, n2, n3⟩ := M_empty []
  clear h2 hb2 hB2
  go_wp2
  go_ret
  exact ⟨rfl, HB2.out⟩
def partT (x : S38) : Bs := [59, 32] ++ L x.f0 ++ [61] ++ L x.f1
def partsT (l : List S38) : Bs := l.flatMap partT
def headT (t u : ByteArray) : Bs := L t ++ [47] ++ L u
def tot : List S38 → Nat
  | [] => 0
  | x :: r => x.f0.size + x.f1.size + 3 + tot r
theorem tot_append (l r : List S38) : tot (l ++ r) = tot l + tot r := by
  induction l with
  | nil => simp [tot]
  | cons x l ih => simp only [List.cons_append, tot, ih]; omega
theorem parts_len : ∀ l : List S38, (partsT l).length = tot l
  | [] => rfl
  | x :: r => by
    show (partT x ++ partsT r).length = _
    rw [List.length_append, parts_len r]
    unfold partT
    simp only [List.length_append, List.length_cons, List.length_nil, tot]
    show 0 + 1 + 1 + x.f0.size + (0 + 1) + x.f1.size + _ = _
    omega
theorem tot_take (l : List S38) (i : Nat) (h : i < l.length) : tot (l.take i) + (l[i].f0.size + l[i].f1.size + 3) ≤ tot l := by
  have e : l = l.take i ++ l[i] :: l.drop (i + 1) := by rw [← List.drop_eq_getElem_cons h, List.take_append_drop]
  have h1 : tot l = tot (l.take i) + (l[i].f0.size + l[i].f1.size + 3 + tot (l.drop (i + 1))) := by
    conv => lhs; rw [e]
    rw [tot_append]
    rfl
  omega
def Two (W : World) (n : Nat) (t : TypeId) (u v : Value) : Prop := W.heap[n]? = some (.cells #[u, v] t (0, 0))
theorem Two.new (W : World) (t : TypeId) (u v : Value) : Two (W.alloc (.cells #[u, v] t)) W.heap.size t u v := World.alloc_heap_new W _
theorem Two.lt {W : World} {n : Nat} {t : TypeId} {u v : Value} (h : Two W n t u v) : n < W.heap.size := (Array.getElem?_eq_some_iff.1 h).1
theorem Two.c0 {W : World} {n : Nat} {t : TypeId} {u v : Value} (h : Two W n t u v) : W.cell? ⟨n, 0, none⟩ = some u := by simp [World.cell?, show W.heap[n]? = _ from h]
theorem Two.c1 {W : World} {n : Nat} {t : TypeId} {u v : Value} (h : Two W n t u v) : W.cell? ⟨n, 1, none⟩ = some v := by simp [World.cell?, show W.heap[n]? = _ from h]
theorem Two.below {W W' : World} {n : Nat} {t : TypeId} {u v : Value} (h : Two W n t u v) (hb : Below W.heap.size W W') : Two W' n t u v := (hb.block n h.lt).trans h
theorem write_kept (B b : Nat) (l : List UInt8) (s : ByteArray) (w : World) (h : Bl B b l w) (hlen : l.length + s.size ≤ 140737488355328) (hBw : B ≤ w.heap.size) :
    Calls Tryz.prog 31 #[.pointer (some ⟨b, 0, none⟩), .string s] w fun e w' => e = .returned (.tuple #[.int .i64 s.size, .nilIface]) ∧ Bl B b (l ++ L s) w' ∧ Below B w w' ∧ Lib.OthersKept 5 (some b) w w' := by
  refine (Tryz.Builder_WriteString_k B b (Lib.byteCells l) s w h (by rw [Lib.byteCells_length]; exact hlen) hBw).mono ?_
  rintro e w' ⟨rfl, h1, h2, h3⟩
  refine ⟨rfl, .inr ?_, h2, h3⟩
  have e1 : Lib.byteCells (l ++ L s) = Lib.byteCells l ++ Lib.strCells s := by simp [Lib.byteCells, Lib.strCells, L]
  rw [e1]
  exact h1
theorem Two.kept {W W' : World} {n b : Nat} {u v : Value} (h : Two W n 38 u v) (hk : Lib.OthersKept 5 (some b) W W') (hn : n ≠ b) : Two W' n 38 u v :=
  hk n _ h (fun e => hn (Option.some.inj e)) (fun c fz hh => by injection hh with _ h5 _; exact absurd h5 (by decide))
def printT6 : Bool × List (List Nat × List Nat) := (true, [([], []), ([0], [0]), ([1], [1]), ([2], [2]), ([], []), ([4], [4]), ([5], [5]), ([3, 6], [3, 6]), ([7, 6], [7])])
def printB6 : List Nat := [0, 1, 3, 7, 0, 16, 48, 127, 255]
theorem print_tab6 : rtab .any (opsOf Tryz.f18 6) = printT6 := by kernel_rfl
theorem print_bits6 : waitsOk printT6.2 printB6 = true := by kernel_rfl
set_option maxHeartbeats 8000000 in
set_option maxRecDepth 100000 in
theorem mprint_calls (t u : ByteArray) (A : Option Addr) (c : Nat) (l : List S38) (w : World) (hC : Kd.C k38 w A l.length l) (hc : l.length ≤ c) (ht : tot l + t.size + u.size ≤ 1000000) (hl : l.length ≤ 1000000) (hv : ∀ x ∈ l, fieldTok (L x.f1) = true) :
    Calls Tryz.prog 18 #[.agg #[.string t, .string u, .slice A l.length c]] w fun e w' => e = .returned (.string (M (headT t u ++ partsT l))) ∧ Below w.heap.size w w' := by
  have HC := Aside0.mk hC
  have HT := Aside0.mk ht
  have HV := Aside0.mk hv
  have hu25 := Tryz.underlying25
  have hu38 := Tryz.underlying38
  have hu56 := Tryz.underlying56
  have hk0 := Tri.new w 25 (.string t) (.string u) (.slice A l.length c)
  have hB0 : Below w.heap.size w (w.alloc (.cells #[.string t, .string u, .slice A l.length c] 25)) := (Below.refl _ _).alloc (Nat.le_refl _) _
  have hs0 : (w.alloc (.cells #[.string t, .string u, .slice A l.length c] 25)).heap.size = w.heap.size + 1 := World.size_alloc _ _
  obtain ⟨W0, hW0⟩ : ∃ x, w.alloc (.cells #[.string t, .string u, .slice A l.length c] 25) = x := ⟨_, rfl⟩
  rw [hW0] at hk0 hB0 hs0
  have hbl := Bl.new W0
  have hk1 := hk0.below ((Below.refl W0.heap.size W0).alloc (Nat.le_refl _) (.cells #[.pointer none, .slice none 0 0] 56))
  have hB1 : Below w.heap.size w (W0.alloc (.cells #[.pointer none, .slice none 0 0] 56)) := hB0.alloc hB0.size _
  have hs1 : (W0.alloc (.cells #[.pointer none, .slice none 0 0] 56)).heap.size = w.heap.size + 2 := by rw [World.size_alloc, hs0]
  obtain ⟨W1, hW1⟩ : ∃ x, W0.alloc (.cells #[.pointer none, .slice none 0 0] 56) = x := ⟨_, rfl⟩
  rw [hW1] at hk1 hB1 hs1 hbl
  rw [hs0] at hbl
  clear hC ht hv hk0 hB0
  have d0 := hk1.c0
  have d1 := hk1.c1
  have d2 := hk1.c2
  go_enter Tryz.func18, Tryz.ntmps18
  have z1 : (9223372036854775807 < t.size + 1) = False := eq_false (by have := HT.out; omega)
  have z2 : (9223372036854775807 < t.size + 1 + u.size) = False := eq_false (by have := HT.out; omega)
  go_wp2_with fail
  have hlen : ([] : List UInt8).length + (t ++ ⟨#[47]⟩ ++ u).size ≤ 140737488355328 := by
    rw [ByteArray.size_append, ByteArray.size_append, show (⟨#[47]⟩ : ByteArray).size = 1 from rfl]
    have := HT.out
    simp only [List.length_nil]
    omega
  have hBw : w.heap.size + 1 ≤ W1.heap.size := by omega
  with_reducible refine (write_calls (w.heap.size + 1) (w.heap.size + 1) [] (t ++ ⟨#[47]⟩ ++ u) W1 hbl hlen hBw).mono ?_
  rintro e W2 ⟨rfl, h1, h2⟩
  have e0 : [] ++ L (t ++ ⟨#[47]⟩ ++ u) = headT t u := by unfold headT; rw [List.nil_append]; show (t ++ ⟨#[47]⟩ ++ u).data.toList = _; rw [ByteArray.data_append, ByteArray.data_append, Array.toList_append, Array.toList_append]
  rw [e0] at h1
  have HBL := Aside0.mk h1
  have HK := Aside0.mk (show Tri W2 w.heap.size 25 (.string t) (.string u) (.slice A l.length c) from (h2.block w.heap.size (by omega)).trans hk1)
  have HBW := Aside0.mk (show Below w.heap.size w W2 from hB1.trans (h2.mono (by omega)))
  have HS := Aside0.mk (show w.heap.size + 2 ≤ W2.heap.size from by have := h2.size; omega)
  clear hlen hBw hW1 hW0 hs0 hs1 h1 h2 e0 hbl hk1 hB1 d0 d1 d2 z1 z2
  have d2 := HK.out.c2
  go_wp2_with fail
  go_loopg [16] (l.length + 1) (fun kq v16 wr => ∃ (i : Nat), v16 = .int .i64 i ∧ Aside0 (Bl (w.heap.size + 1) (w.heap.size + 1) (headT t u ++ partsT (l.take i)) wr) ∧ Aside0 (Below w.heap.size w wr) ∧ Aside0 (w.heap.size + 2 ≤ wr.heap.size) ∧ Aside0 (i + kq = l.length + 1 ∧ i ≤ l.length))
  case atStart => exact ⟨0, rfl, ⟨by rw [List.take_zero]; show Bl _ _ (headT t u ++ []) _; rw [List.append_nil]; exact HBL.out⟩, HBW, HS, ⟨by omega, by omega⟩⟩
  case round =>
    obtain ⟨i, rfl, HBl, HB, HS2, HK2⟩ := hrel
    cases gk with
    | zero => exact absurd HK2.out (by omega)
    | succ k1 =>
      by_cases hi : i < l.length
      · obtain ⟨ad, rfl, x0, x1⟩ := at_T38 (Kd.C_below HC.out HB.out) (i : Int) (by omega) (by omega)
        have hrd : rd_T38 l (i : Int) = l[i]'hi := by
          unfold rd_T38
          rw [Int.toNat_natCast, List.getD_eq_getElem?_getD, List.getElem?_eq_getElem hi, Option.getD_some]
        have HT2 := Aside0.mk (tot_take l i hi)
        have HSs := Aside0.mk (List.take_succ_eq_append_getElem (l := l) (i := i) hi)
        have HV2 := Aside0.mk (HV.out _ (List.getElem_mem hi))
        rw [hrd] at x0 x1
        clear hrd
        generalize l[i]'hi = x at x0 x1 HT2 HSs HV2
        rw [Int.toNat_natCast] at x0 x1
        have hlt : decide ((i : Int) < (l.length : Int)) = true := decide_eq_true (by omega)
        have p1 := eq_true (show 0 ≤ (i : Int) by omega)
        have p2 := eq_true (show (i : Int) < (l.length : Int) by omega)
        have hz0 : x.f0.size + x.f1.size + 3 ≤ 1000000 := by have := HT2.out; have := HT.out; omega
        have z3 : (9223372036854775807 < 2 + x.f0.size) = False := eq_false (by omega)
        have z4 : (9223372036854775807 < 2 + x.f0.size + 1) = False := eq_false (by omega)
        have z5 : (9223372036854775807 < 2 + x.f0.size + 1 + x.f1.size) = False := eq_false (by omega)
        go_wp2_with fail
        have KX := Aside0.mk (Two.new wr 38 (.string x.f0) (.string x.f1))
        have KB := Aside0.mk (HBl.out.below ((Below.refl _ wr).alloc (Nat.le_refl _) (.cells #[.string x.f0, .string x.f1] 38)))
        have KW := Aside0.mk (HB.out.alloc HB.out.size (.cells #[.string x.f0, .string x.f1] 38))
        have KS := Aside0.mk (show w.heap.size + 2 ≤ (wr.alloc (.cells #[.string x.f0, .string x.f1] 38)).heap.size from by rw [World.size_alloc]; have := HS2.out; omega)
        have hlen : (headT t u ++ partsT (l.take i)).length + (⟨#[59, 32]⟩ ++ x.f0 ++ ⟨#[61]⟩ ++ x.f1 : ByteArray).size ≤ 140737488355328 := by
          rw [List.length_append, parts_len, ByteArray.size_append, ByteArray.size_append, ByteArray.size_append, show (⟨#[59, 32]⟩ : ByteArray).size = 2 from rfl, show (⟨#[61]⟩ : ByteArray).size = 1 from rfl]
          have h1 := HT2.out
          have h2 := HT.out
          have h3 : (headT t u).length = t.size + 1 + u.size := by unfold headT; simp only [List.length_append, List.length_cons, List.length_nil]; rfl
          omega
        generalize wr.alloc (.cells #[.string x.f0, .string x.f1] 38) = W3 at KX KB KW KS ⊢
        have KN := Aside0.mk HS2.out
        generalize wr.heap.size = n at KX KN ⊢
        refine start_ (n := 9) (S := fun w' => w'.cell? ⟨n, 0, none⟩ = some (.string x.f0) ∧ w'.cell? ⟨n, 1, none⟩ = some (.string x.f1)) (ds := []) #[false, false, false, false, false, false, false, false, false] (by kernel_rfl) rfl rfl ⟨KX.out.c0, KX.out.c1⟩ (fun hHeld => ?_)
        refine with_tabW print_tab6 print_bits6 (fun HT_ HW_ => ?_)
        have hd : Below W3.heap.size W3 W3.drew := (Below.refl _ _).drew
        replace KX := Aside0.mk (KX.out.below hd)
        replace KB := Aside0.mk (KB.out.below hd)
        replace KW := Aside0.mk (KW.out.trans (hd.mono KW.out.size))
        replace KS := Aside0.mk (Nat.le_trans KS.out hd.size)
        clear hd
        generalize World.drew _ = v0 at KX KB KW KS hHeld ⊢
        refine pure_ (i := 0) (N := some 20) (v := .pointer (some ⟨n, 0, none⟩)) #[true, false, false, false, false, false, false, false, false] rfl rfl (any_of HT_.out (by kernel_rfl)) (fun _ _ _ h => h) (Or.inl ⟨by rfl, fun w' => by go_simp⟩) rfl ?_
        simp only [Act.put, List.setIfInBounds_toArray, List.set_cons_zero, List.set_cons_succ]
        refine take_ (i := 1) (N := some 21) (v := .string x.f0) #[true, true, false, false, false, false, false, false, false] rfl rfl (take_ofW HT_.out HW_.out (by kernel_rfl)) (fun _ _ _ h => h) (Or.inl ⟨by rfl, fun w' hS => by obtain ⟨s0, s1⟩ := hS; go_simp⟩) hHeld rfl ?_
        simp only [Act.put, List.setIfInBounds_toArray, List.set_cons_zero, List.set_cons_succ]
        refine pure_ (i := 2) (N := some 22) (v := .string (⟨#[59, 32]⟩ ++ x.f0)) #[true, true, true, false, false, false, false, false, false] rfl rfl (any_of HT_.out (by kernel_rfl)) (fun _ _ _ h => h) (Or.inl ⟨by rfl, fun w' => by go_simp⟩) rfl ?_
        simp only [Act.put, List.setIfInBounds_toArray, List.set_cons_zero, List.set_cons_succ]
        refine pure_ (i := 3) (N := some 23) (v := .string (⟨#[59, 32]⟩ ++ x.f0 ++ ⟨#[61]⟩)) #[true, true, true, true, false, false, false, false, false] rfl rfl (any_of HT_.out (by kernel_rfl)) (fun _ _ _ h => h) (Or.inl ⟨by rfl, fun w' => by go_simp⟩) rfl ?_
        simp only [Act.put, List.setIfInBounds_toArray, List.set_cons_zero, List.set_cons_succ]
        refine pure_ (i := 4) (N := some 24) (v := .pointer (some ⟨n, 1, none⟩)) #[true, true, true, true, true, false, false, false, false] rfl rfl (any_of HT_.out (by kernel_rfl)) (fun _ _ _ h => h) (Or.inl ⟨by rfl, fun w' => by go_simp⟩) rfl ?_
        simp only [Act.put, List.setIfInBounds_toArray, List.set_cons_zero, List.set_cons_succ]
        refine take_ (i := 5) (N := some 25) (v := .string x.f1) #[true, true, true, true, true, true, false, false, false] rfl rfl (take_ofW HT_.out HW_.out (by kernel_rfl)) (fun _ _ _ h => h) (Or.inl ⟨by rfl, fun w' hS => by obtain ⟨s0, s1⟩ := hS; go_simp⟩) hHeld rfl ?_
        simp only [Act.put, List.setIfInBounds_toArray, List.set_cons_zero, List.set_cons_succ]
        refine one_ (i := 6) (N := some 26) #[true, true, true, true, true, true, true, false, false] rfl rfl (one_of HT_.out (by kernel_rfl)) (by decide) (fun K hK => ?_)
        refine goes_ Tryz.func32 (by kernel_rfl) rfl #[.string x.f1] (by rfl) rfl rfl (by (try simp only [List.map_toArray, List.map_cons, List.map_nil]); first | done | rfl) ?_
        with_reducible refine (quote_tok x.f1 _ HV2.out (by omega)).mono ?_
        rintro e_ v1 ⟨rfl, h⟩
        replace KX := Aside0.mk (KX.out.below h)
        replace KB := Aside0.mk (KB.out.below h)
        replace KW := Aside0.mk (KW.out.trans (h.mono KW.out.size))
        replace KS := Aside0.mk (Nat.le_trans KS.out h.size)
        clear h
        refine ⟨_, rfl, ?_⟩
        refine hK.out _ _ ⟨KX.out.c0, KX.out.c1⟩ (fun hHeld => ?_)
        clear hK K
        simp only [Act.put, List.setIfInBounds_toArray, List.set_cons_zero, List.set_cons_succ]
        refine pure_ (i := 7) (N := some 27) (v := .string (⟨#[59, 32]⟩ ++ x.f0 ++ ⟨#[61]⟩ ++ x.f1)) #[true, true, true, true, true, true, true, true, false] rfl rfl (any_of HT_.out (by kernel_rfl)) (fun _ _ _ h => h) (Or.inl ⟨by rfl, fun w' => by go_simp⟩) rfl ?_
        simp only [Act.put, List.setIfInBounds_toArray, List.set_cons_zero, List.set_cons_succ]
        refine one_ (i := 8) (N := some 28) #[true, true, true, true, true, true, true, true, true] rfl rfl (one_of HT_.out (by kernel_rfl)) (by decide) (fun K hK => ?_)
        refine goes_ Tryz.func31 (by kernel_rfl) rfl #[.pointer (some ⟨w.heap.size + 1, 0, none⟩), .string (⟨#[59, 32]⟩ ++ x.f0 ++ ⟨#[61]⟩ ++ x.f1)] (by rfl) rfl rfl (by (try simp only [List.map_toArray, List.map_cons, List.map_nil]); first | done | rfl) ?_
        with_reducible refine (write_kept (w.heap.size + 1) (w.heap.size + 1) _ (⟨#[59, 32]⟩ ++ x.f0 ++ ⟨#[61]⟩ ++ x.f1) _ KB.out hlen (by have := KS.out; omega)).mono ?_
        rintro e_ v2 ⟨rfl, h1, h2, h3⟩
        replace KX := Aside0.mk (KX.out.kept h3 (by have := KN.out; omega))
        have KB9 := Aside0.mk h1
        replace KW := Aside0.mk (KW.out.trans (h2.mono (by omega)))
        replace KS := Aside0.mk (Nat.le_trans KS.out h2.size)
        clear h1 h2 KB
        refine ⟨_, rfl, ?_⟩
        refine hK.out _ _ ⟨KX.out.c0, KX.out.c1⟩ (fun hHeld => ?_)
        clear hK K
        simp only [Act.put, List.setIfInBounds_toArray, List.set_cons_zero, List.set_cons_succ]
        refine done_ (done_of HT_.out (by kernel_rfl)) ?_
        clear hHeld
        have hfin : headT t u ++ partsT (l.take i) ++ L (⟨#[59, 32]⟩ ++ x.f0 ++ ⟨#[61]⟩ ++ x.f1) = headT t u ++ partsT (l.take (i + 1)) := by
          rw [HSs.out]
          unfold partsT
          rw [List.flatMap_append, List.append_assoc]
          congr 1
          simp only [List.flatMap_cons, List.flatMap_nil, List.append_nil]
          unfold partT
          show _ ++ (⟨#[59, 32]⟩ ++ x.f0 ++ ⟨#[61]⟩ ++ x.f1 : ByteArray).data.toList = _
          rw [ByteArray.data_append, ByteArray.data_append, ByteArray.data_append, Array.toList_append, Array.toList_append, Array.toList_append]
        have hK9 := KB9.out
        rw [hfin] at hK9
        have HK9 := Aside0.mk hK9
        clear hK9 hfin KB9
        go_wp2
        go_roundg k1
        case measure => omega
        case rel => exact ⟨i + 1, congrArg (Value.int IntKind.i64) (show (i : Int) + 1 = ((i + 1 : Nat) : Int) from rfl), HK9, KW, KS, ⟨by have := HK2.out; omega, by omega⟩⟩
      · have hlt : decide ((i : Int) < (l.length : Int)) = false := decide_eq_false (by omega)
        have hall : l.take i = l := List.take_of_length_le (by omega)
        rw [hall] at HBl
        have HW := Aside0.mk (show w.heap.size + 1 ≤ W2.heap.size from by have := HS.out; omega)
        go_wp2_with fail
        refine (string_calls _ _ _ _ HBl.out (by have := HS2.out; omega)).mono ?_
        rintro e w9 ⟨rfl, h9⟩
        have HF := Aside0.mk (HB.out.trans (h9.mono (by omega)))
        clear h9
        go_wp2
        go_ret
        exact ⟨rfl, HF.out⟩
end Go.Proofs.YtdecjlkfpbgkgaaGreatDoor.X
namespace Go.Proofs.YtdecjlkfpbgkgaaGreatDoor.X
open Go.RowKit Go.Shelf Go.Proofs.YtdecjlkfpbgkgaaGreatDoorW.PrintWords Go.Proofs.YtdecjlkfpbgkgaaGreatDoorW.PrintLast Go.Proofs.YtdecjlkfpbgkgaaGreatDoorW.PrintMore Go.Proofs.YtdecjlkfpbgkgaaGreatDoor.F Go.Proofs.YtdecjlkfpbgkgaaGreatDoor.Pm
set_option linter.unusedVariables false
set_option linter.unusedSimpArgs false
def sameN (n : ByteArray) (x : S38) : Bool := x.f0.toList == n.toList
def paramW (m : List S38) (n : ByteArray) : ByteArray × Bool := match m.find? (sameN n) with | some x => (x.f1, true) | none => (⟨#[]⟩, false)
theorem paramW_at (m : List S38) (n : ByteArray) (i : Nat) (h : i < m.length) : paramW (m.drop i) n = if sameN n m[i] = true then (m[i].f1, true) else paramW (m.drop (i + 1)) n := by
  unfold paramW
  rw [List.drop_eq_getElem_cons h, List.find?_cons]
  cases sameN n m[i] <;> rfl
set_option maxHeartbeats 4000000 in
set_option maxRecDepth 100000 in
theorem param_calls (t u : ByteArray) (A : Option Addr) (c : Nat) (l : List S38) (n : ByteArray) (w : World) (hC : Kd.C k38 w A l.length l) (hc : l.length ≤ c) :
    Calls Tryz.prog 14 #[.agg #[.string t, .string u, .slice A l.length c], .string n] w fun e w' => e = .returned (.tuple #[.string (paramW l n).1, .bool (paramW l n).2]) ∧ Below w.heap.size w w' := by
  have HC := Aside0.mk hC
  have hm := Kd.C_max hC
  have hu25 := Tryz.underlying25
  have hu38 := Tryz.underlying38
  have hk0 := Tri.new w 25 (.string t) (.string u) (.slice A l.length c)
  have hB0 : Below w.heap.size w (w.alloc (.cells #[.string t, .string u, .slice A l.length c] 25)) := (Below.refl _ _).alloc (Nat.le_refl _) _
  obtain ⟨W0, hW0⟩ : ∃ x, w.alloc (.cells #[.string t, .string u, .slice A l.length c] 25) = x := ⟨_, rfl⟩
  rw [hW0] at hk0 hB0
  have HB0 := Aside0.mk hB0
  have d2 := hk0.c2
  clear hC hB0
  go_enter Tryz.func14, Tryz.ntmps14
  go_wp2_with fail
  go_loopg [11] (l.length + 1) (fun kq v11 wr => ∃ (i : Nat), v11 = .int .i64 i ∧ Aside0 (Below w.heap.size w wr) ∧ Aside0 (paramW l n = paramW (l.drop i) n) ∧ Aside0 (i + kq = l.length + 1 ∧ i ≤ l.length))
  case atStart => exact ⟨0, rfl, HB0, ⟨rfl⟩, ⟨by omega, by omega⟩⟩
  case round =>
    obtain ⟨i, rfl, HB, HE, HK⟩ := hrel
    cases gk with
    | zero => exact absurd HK.out (by omega)
    | succ k1 =>
      by_cases hi : i < l.length
      · obtain ⟨ad, rfl, x0, x1⟩ := at_T38 (Kd.C_below HC.out HB.out) (i : Int) (by omega) (by omega)
        have hrd : rd_T38 l (i : Int) = l[i]'hi := by
          unfold rd_T38
          rw [Int.toNat_natCast, List.getD_eq_getElem?_getD, List.getElem?_eq_getElem hi, Option.getD_some]
        have hst := paramW_at l n i hi
        rw [hrd] at x0 x1
        clear hrd
        generalize l[i]'hi = x at x0 x1 hst
        rw [Int.toNat_natCast] at x0 x1
        have hlt : decide ((i : Int) < (l.length : Int)) = true := decide_eq_true (by omega)
        have p1 := eq_true (show 0 ≤ (i : Int) by omega)
        have p2 := eq_true (show (i : Int) < (l.length : Int) by omega)
        obtain ⟨q, hq⟩ : ∃ q, (x.f0.toList == n.toList) = q := ⟨_, rfl⟩
        rw [show sameN n x = q from hq] at hst
        have HST := Aside0.mk (HE.out.trans hst)
        have HBn := Aside0.mk (HB.out.alloc HB.out.size (.cells #[.string x.f0, .string x.f1] 38))
        clear hst HE
        cases q with
        | true =>
          go_wp2
          go_ret2
          rw [HST.out]
          exact ⟨rfl, HBn.out⟩
        | false =>
          go_wp2
          go_roundg k1
          case measure => omega
          case rel => exact ⟨i + 1, congrArg (Value.int IntKind.i64) (show (i : Int) + 1 = ((i + 1 : Nat) : Int) from rfl), HBn, ⟨by rw [HST.out]; rfl⟩, ⟨by have := HK.out; omega, by omega⟩⟩
      · have hlt : decide ((i : Int) < (l.length : Int)) = false := decide_eq_false (by omega)
        have HF := Aside0.mk (show paramW l n = (⟨#[]⟩, false) from by rw [HE.out, List.drop_eq_nil_of_le (by omega)]; rfl)
        go_wp2
        go_ret2
        rw [HF.out]
        exact ⟨rfl, HB.out⟩
end Go.Proofs.YtdecjlkfpbgkgaaGreatDoor.X
namespace Go.Proofs.YtdecjlkfpbgkgaaGreatDoor.X
open Go.RowKit Go.Shelf Go.Proofs.YtdecjlkfpbgkgaaGreatDoorW.PrintWords Go.Proofs.YtdecjlkfpbgkgaaGreatDoorW.PrintLast Go.Proofs.YtdecjlkfpbgkgaaGreatDoorW.PrintMore Go.Proofs.YtdecjlkfpbgkgaaGreatDoor.F Go.Proofs.YtdecjlkfpbgkgaaGreatDoor.Pm
set_option linter.unusedVariables false
set_option linter.unusedSimpArgs false
def hitB (a b : ByteArray) : Bool := a.toList == [42] || a.toList == b.toList
abbrev paramV := paramW
/-- Does a parameter of a range agree with a type's? -/
def parB (m : List S38) (p : S38) : Bool := p.f0.toList == [113] || ((paramV m p.f0).2 && small (L (paramV m p.f0).1) == small (L p.f1))
def fitsV (a1 a2 : ByteArray) (l : List S38) (b1 b2 : ByteArray) (m : List S38) : Bool := hitB a1 b1 && hitB a2 b2 && l.all (parB m)
def Quad (W : World) (n : Nat) (t : TypeId) (u v x y : Value) : Prop := W.heap[n]? = some (.cells #[u, v, x, y] t (0, 0))
theorem Quad.new (W : World) (t : TypeId) (u v x y : Value) : Quad (W.alloc (.cells #[u, v, x, y] t)) W.heap.size t u v x y := World.alloc_heap_new W _
theorem Quad.lt {W : World} {n : Nat} {t : TypeId} {u v x y : Value} (h : Quad W n t u v x y) : n < W.heap.size := (Array.getElem?_eq_some_iff.1 h).1
theorem Quad.cell {W : World} {n : Nat} {t : TypeId} {u v x y : Value} (h : Quad W n t u v x y) (i : Nat) : W.cell? ⟨n, i, none⟩ = (#[u, v, x, y] : Array Value)[i]? := by simp [World.cell?, show W.heap[n]? = _ from h]
theorem Quad.below {W W' : World} {n : Nat} {t : TypeId} {u v x y : Value} (h : Quad W n t u v x y) (hb : Below W.heap.size W W') : Quad W' n t u v x y := (hb.block n h.lt).trans h
theorem paramW_size (m : List S38) (n : ByteArray) (h : ∀ x ∈ m, x.f1.size ≤ 140737488355328) : (paramW m n).1.size ≤ 140737488355328 := by
  unfold paramW
  cases hf : m.find? (sameN n) with
  | none => exact Nat.zero_le _
  | some x => exact h x (List.mem_of_find?_eq_some hf)
def fitsT11 : Bool × List (List Nat × List Nat) := (true, [([], []), ([0], [0]), ([1], [1]), ([2], [2]), ([3], [3]), ([4, 3], [3, 4]), ([5, 3, 3], [3, 5]), ([6], [6]), ([7, 6, 6], [6, 7]), ([6], [6]), ([9, 6], [6, 9]), ([10, 8, 6], [6, 10]), ([8, 11, 6], [6, 8, 11]), ([6, 12, 3], [3, 6, 12]), ([3, 13], [3, 13])])
def fitsB11 : List Nat := [0, 1, 3, 7, 15, 31, 63, 127, 255, 127, 639, 1663, 4095, 8191, 16383]
theorem fits_tab11 : rtab .any (opsOf Tryz.f16 11) = fitsT11 := by kernel_rfl
theorem fits_bits11 : waitsOk fitsT11.2 fitsB11 = true := by kernel_rfl
set_option maxHeartbeats 8000000 in
set_option maxRecDepth 100000 in
theorem fits_calls (a1 a2 : ByteArray) (A : Option Addr) (c : Nat) (l : List S38) (b1 b2 : ByteArray) (A' : Option Addr) (c' : Nat) (m : List S38) (w : World) (hC : Kd.C k38 w A l.length l) (hc : l.length ≤ c) (hC' : Kd.C k38 w A' m.length m) (hc' : m.length ≤ c') (hvl : ∀ x ∈ l, x.f1.size ≤ 140737488355328) (hvm : ∀ x ∈ m, x.f1.size ≤ 140737488355328) (R : Bool) (hR : fitsV a1 a2 l b1 b2 m = R) :
    Calls Tryz.prog 16 #[.agg #[.string a1, .string a2, .slice A l.length c], .agg #[.string b1, .string b2, .slice A' m.length c']] w fun e w' => e = .returned (.bool R) ∧ Below w.heap.size w w' := by
  have HR := Aside0.mk hR
  clear hR
  have HC := Aside0.mk hC
  have HC' := Aside0.mk hC'
  have HVL := Aside0.mk hvl
  have HVM := Aside0.mk hvm
  clear hvl hvm
  have hu25 := Tryz.underlying25
  have hu38 := Tryz.underlying38
  have hu52 := Tryz.underlying52
  have hk0 := Tri.new w 25 (.string a1) (.string a2) (.slice A l.length c)
  have hB0 : Below w.heap.size w (w.alloc (.cells #[.string a1, .string a2, .slice A l.length c] 25)) := (Below.refl _ _).alloc (Nat.le_refl _) _
  have hs0 : (w.alloc (.cells #[.string a1, .string a2, .slice A l.length c] 25)).heap.size = w.heap.size + 1 := World.size_alloc _ _
  obtain ⟨W0, hW0⟩ : ∃ x, w.alloc (.cells #[.string a1, .string a2, .slice A l.length c] 25) = x := ⟨_, rfl⟩
  rw [hW0] at hk0 hB0 hs0
  have hj1 := Tri.new W0 25 (.string b1) (.string b2) (.slice A' m.length c')
  have hk1 := hk0.below ((Below.refl W0.heap.size W0).alloc (Nat.le_refl _) (.cells #[.string b1, .string b2, .slice A' m.length c'] 25))
  have hB1 : Below w.heap.size w (W0.alloc (.cells #[.string b1, .string b2, .slice A' m.length c'] 25)) := hB0.alloc hB0.size _
  have hs1 : (W0.alloc (.cells #[.string b1, .string b2, .slice A' m.length c'] 25)).heap.size = w.heap.size + 2 := by rw [World.size_alloc, hs0]
  obtain ⟨W1, hW1⟩ : ∃ x, W0.alloc (.cells #[.string b1, .string b2, .slice A' m.length c'] 25) = x := ⟨_, rfl⟩
  rw [hW1] at hk1 hB1 hs1 hj1
  rw [hs0] at hj1
  clear hC hC' hk0 hB0
  have d0 := hk1.c0
  have d1 := hk1.c1
  have d2 := hk1.c2
  have e0 := hj1.c0
  have e1 := hj1.c1
  have e2 := hj1.c2
  go_enter Tryz.func16, Tryz.ntmps16
  go_wp2_with fail
  have hq := Quad.new W1 52 (.string a1) (.string b1) (.string a2) (.string b2)
  rw [hs1] at hq
  have alB : Below W1.heap.size W1 (W1.alloc (.cells #[.string a1, .string b1, .string a2, .string b2] 52)) := (Below.refl _ _).alloc (Nat.le_refl _) _
  have HQ0 := Aside0.mk hq
  have HK0 := Aside0.mk (hk1.below alB)
  have HJ0 := Aside0.mk (hj1.below alB)
  have HB0 := Aside0.mk (hB1.trans (alB.mono hB1.size))
  clear hq alB hk1 hj1 hB1 hs1 hW1 hW0 hs0 d0 d1 d2 e0 e1 e2
  generalize W1.alloc (.cells #[.string a1, .string b1, .string a2, .string b2] 52) = W2 at HQ0 HK0 HJ0 HB0 ⊢
  go_loopg [23] 3 (fun kq v23 wr => ∃ (i : Nat), v23 = .int .i64 i ∧ Aside0 (Quad wr (w.heap.size + 2) 52 (.string a1) (.string b1) (.string a2) (.string b2)) ∧ Aside0 (Tri wr w.heap.size 25 (.string a1) (.string a2) (.slice A l.length c)) ∧ Aside0 (Tri wr (w.heap.size + 1) 25 (.string b1) (.string b2) (.slice A' m.length c')) ∧ Aside0 (Below w.heap.size w wr) ∧ Aside0 (i + kq = 3 ∧ i ≤ 2) ∧ Aside0 ((1 ≤ i → hitB a1 b1 = true) ∧ (2 ≤ i → hitB a2 b2 = true)))
  case atStart => exact ⟨0, rfl, HQ0, HK0, HJ0, HB0, ⟨by omega, by omega⟩, ⟨fun h => by omega, fun h => by omega⟩⟩
  case round =>
    obtain ⟨i, rfl, HQ, HK, HJ, HB, HI, HH⟩ := hrel
    cases gk with
    | zero => exact absurd HI.out (by omega)
    | succ k1 =>
      have q0 := (HQ.out.cell 0).trans rfl
      have q1 := (HQ.out.cell 1).trans rfl
      have q2 := (HQ.out.cell 2).trans rfl
      have q3 := (HQ.out.cell 3).trans rfl
      have hi : i = 0 ∨ i = 1 ∨ i = 2 := by have := HI.out; omega
      rcases hi with rfl | rfl | rfl
      · obtain ⟨p1, hp1⟩ : ∃ p, (a1.toList == [42]) = p := ⟨_, rfl⟩
        obtain ⟨p2, hp2⟩ : ∃ p, (a1.toList == b1.toList) = p := ⟨_, rfl⟩
        have hn1 : (a1.toList != [42]) = !p1 := by unfold bne; rw [hp1]
        have hn2 : (a1.toList != b1.toList) = !p2 := by unfold bne; rw [hp2]
        have HP := Aside0.mk (show hitB a1 b1 = (p1 || p2) from by unfold hitB; rw [hp1, hp2])
        have al : Below wr.heap.size wr (wr.alloc (.cells #[.string a1, .string b1] 52)) := (Below.refl _ _).alloc (Nat.le_refl _) _
        have HQn := Aside0.mk (HQ.out.below al)
        have HKn := Aside0.mk (HK.out.below al)
        have HJn := Aside0.mk (HJ.out.below al)
        have HBn := Aside0.mk (HB.out.trans (al.mono HB.out.size))
        clear al
        go_wp2_with fail
        all_goals first
          | (go_ret
             refine ⟨?_, HBn.out⟩
             rw [← HR.out]
             unfold fitsV
             rw [HP.out]
             cases p1 <;> cases p2 <;> simp_all)
          | (go_roundg k1
             (case measure => omega)
             (case rel => exact ⟨1, rfl, HQn, HKn, HJn, HBn, ⟨by have := HI.out; omega, by omega⟩, ⟨fun _ => by rw [HP.out]; cases p1 <;> cases p2 <;> simp_all, fun h => absurd h (by omega)⟩⟩))
      · obtain ⟨p1, hp1⟩ : ∃ p, (a2.toList == [42]) = p := ⟨_, rfl⟩
        obtain ⟨p2, hp2⟩ : ∃ p, (a2.toList == b2.toList) = p := ⟨_, rfl⟩
        have hn1 : (a2.toList != [42]) = !p1 := by unfold bne; rw [hp1]
        have hn2 : (a2.toList != b2.toList) = !p2 := by unfold bne; rw [hp2]
        have HP := Aside0.mk (show hitB a2 b2 = (p1 || p2) from by unfold hitB; rw [hp1, hp2])
        have al : Below wr.heap.size wr (wr.alloc (.cells #[.string a2, .string b2] 52)) := (Below.refl _ _).alloc (Nat.le_refl _) _
        have HQn := Aside0.mk (HQ.out.below al)
        have HKn := Aside0.mk (HK.out.below al)
        have HJn := Aside0.mk (HJ.out.below al)
        have HBn := Aside0.mk (HB.out.trans (al.mono HB.out.size))
        clear al
        go_wp2_with fail
        all_goals first
          | (go_ret
             refine ⟨?_, HBn.out⟩
             rw [← HR.out]
             unfold fitsV
             rw [HP.out]
             cases p1 <;> cases p2 <;> simp_all)
          | (go_roundg k1
             (case measure => omega)
             (case rel => exact ⟨2, rfl, HQn, HKn, HJn, HBn, ⟨by have := HI.out; omega, by omega⟩, ⟨fun _ => HH.out.1 (by omega), fun _ => by rw [HP.out]; cases p1 <;> cases p2 <;> simp_all⟩⟩))
      · have d2 := HK.out.c2
        have HA := Aside0.mk (show hitB a1 b1 = true ∧ hitB a2 b2 = true from ⟨HH.out.1 (by omega), HH.out.2 (by omega)⟩)
        have HR2 := Aside0.mk (show l.all (parB m) = R from by rw [← HR.out]; unfold fitsV; rw [HA.out.1, HA.out.2]; rfl)
        clear q0 q1 q2 q3 HQ HI HH HA HR HQ0 HK0 HJ0 HB0
        have hm := Kd.C_max HC.out
        go_wp2_with fail
        go_loopg [41] (l.length + 1) (fun kq v41 W => ∃ (i : Nat), v41 = .int .i64 i ∧ Aside0 (Tri W (w.heap.size + 1) 25 (.string b1) (.string b2) (.slice A' m.length c')) ∧ Aside0 (Below w.heap.size w W) ∧ Aside0 (l.all (parB m) = (l.drop i).all (parB m)) ∧ Aside0 (i + kq = l.length + 1 ∧ i ≤ l.length))
        case atStart => exact ⟨0, rfl, HJ, HB, ⟨rfl⟩, ⟨by omega, by omega⟩⟩
        case round =>
          obtain ⟨i, rfl, HJ2, HB2, HE, HK2⟩ := hrel
          cases gk with
          | zero => exact absurd HK2.out (by omega)
          | succ k2 =>
            by_cases hi : i < l.length
            · obtain ⟨ad, rfl, x0, x1⟩ := at_T38 (Kd.C_below HC.out HB2.out) (i : Int) (by omega) (by omega)
              have hrd : rd_T38 l (i : Int) = l[i]'hi := by
                unfold rd_T38
                rw [Int.toNat_natCast, List.getD_eq_getElem?_getD, List.getElem?_eq_getElem hi, Option.getD_some]
              have hst : (l.drop i).all (parB m) = (parB m (l[i]'hi) && (l.drop (i + 1)).all (parB m)) := by rw [List.drop_eq_getElem_cons hi, List.all_cons]
              have HSX := Aside0.mk (HVL.out _ (List.getElem_mem hi))
              rw [hrd] at x0 x1
              clear hrd
              generalize l[i]'hi = x at x0 x1 hst HSX
              rw [Int.toNat_natCast] at x0 x1
              have hlt : decide ((i : Int) < (l.length : Int)) = true := decide_eq_true (by omega)
              have p1 := eq_true (show 0 ≤ (i : Int) by omega)
              have p2 := eq_true (show (i : Int) < (l.length : Int) by omega)
              have HST := Aside0.mk (HR2.out.symm.trans (HE.out.trans hst))
              have HEQ := Aside0.mk (HE.out.trans hst)
              have al : ∀ W : World, Below W.heap.size W (W.alloc (.cells #[.string x.f0, .string x.f1] 38)) := fun W => (Below.refl _ _).alloc (Nat.le_refl _) _
              have hj := HJ2.out.below (al _)
              have HX := Aside0.mk (Two.new wr 38 (.string x.f0) (.string x.f1))
              have HJ3 := Aside0.mk hj
              have HB3 := Aside0.mk (HB2.out.trans ((al _).mono HB2.out.size))
              have t0 := hj.c0
              have t1 := hj.c1
              have t2 := hj.c2
              clear hst hj al
              go_wp2_with fail
              refine (param_calls b1 b2 A' c' m x.f0 _ (Kd.C_below HC'.out HB3.out) hc').mono ?_
              rintro e w9 ⟨rfl, h9⟩
              have HX9 := Aside0.mk (HX.out.below h9)
              have HJ9 := Aside0.mk (HJ3.out.below h9)
              have HB9 := Aside0.mk (HB3.out.trans (h9.mono HB3.out.size))
              obtain ⟨pv, hpv⟩ : ∃ v, (paramW m x.f0).1 = v := ⟨_, rfl⟩
              obtain ⟨pk, hpk⟩ : ∃ v, (paramW m x.f0).2 = v := ⟨_, rfl⟩
              have HPB := Aside0.mk (show parB m x = (x.f0.toList == [113] || (pk && small (L pv) == small (L x.f1))) from by unfold parB; rw [← hpv, ← hpk])
              have HSV := Aside0.mk (show pv.size ≤ 140737488355328 from by rw [← hpv]; exact paramW_size m x.f0 HVM.out)
              rw [hpv, hpk]
              clear hpv hpk h9 HX HJ3 HB3 t0 t1 t2
              go_wp2_with fail
              have KX := HX9
              have KJ := HJ9
              have KW := HB9
              have HU := Aside0.mk (show w.heap.size ≤ wr.heap.size from HB2.out.size)
              generalize wr.heap.size = n at KX HU ⊢
              obtain ⟨q, hq⟩ : ∃ q, (x.f0.toList == [113]) = q := ⟨_, rfl⟩
              have hnq : (x.f0.toList != [113]) = !q := by unfold bne; rw [hq]
              rw [hq] at HPB
              refine start_ (n := 15) (S := fun w' => w'.cell? ⟨n, 0, none⟩ = some (.string x.f0) ∧ w'.cell? ⟨n, 1, none⟩ = some (.string x.f1)) (ds := []) #[false, false, false, false, false, false, false, false, false, false, false, false, false, false, false] (by kernel_rfl) rfl rfl ⟨KX.out.c0, KX.out.c1⟩ (fun hHeld => ?_)
              refine with_tabW fits_tab11 fits_bits11 (fun HT_ HW_ => ?_)
              have hd : Below w9.heap.size w9 w9.drew := (Below.refl _ _).drew
              replace KX := Aside0.mk (KX.out.below hd)
              replace KJ := Aside0.mk (KJ.out.below hd)
              replace KW := Aside0.mk (KW.out.trans (hd.mono KW.out.size))
              clear hd HX9 HJ9 HB9
              generalize World.drew _ = v0 at KX KJ KW hHeld ⊢
              cases q with
              | true =>
                refine pure_ (i := 0) (N := some 52) (v := .pointer (some ⟨n, 0, none⟩)) #[true, false, false, false, false, false, false, false, false, false, false, false, false, false, false] rfl rfl (any_of HT_.out (by kernel_rfl)) (fun _ _ _ h => h) (Or.inl ⟨by rfl, fun w' => by go_simp⟩) rfl ?_
                simp only [Act.put, List.setIfInBounds_toArray, List.set_cons_zero, List.set_cons_succ]
                refine take_ (i := 1) (N := some 53) (v := .string x.f0) #[true, true, false, false, false, false, false, false, false, false, false, false, false, false, false] rfl rfl (take_ofW HT_.out HW_.out (by kernel_rfl)) (fun _ _ _ h => h) (Or.inl ⟨by rfl, fun w' hS => by obtain ⟨s0, s1⟩ := hS; go_simp⟩) hHeld rfl ?_
                simp only [Act.put, List.setIfInBounds_toArray, List.set_cons_zero, List.set_cons_succ]
                refine pure_ (i := 2) (N := some 54) (v := .bool false) #[true, true, true, false, false, false, false, false, false, false, false, false, false, false, false] rfl rfl (any_of HT_.out (by kernel_rfl)) (fun _ _ _ h => h) (Or.inl ⟨by rfl, fun w' => by go_simp⟩) rfl ?_
                simp only [Act.put, List.setIfInBounds_toArray, List.set_cons_zero, List.set_cons_succ]
                refine pure_ (i := 3) (N := some 55) (v := .bool false) #[true, true, true, true, false, false, false, false, false, false, false, false, false, false, false] rfl rfl (any_of HT_.out (by kernel_rfl)) (fun _ _ _ h => h) (Or.inl ⟨by rfl, fun w' => by go_simp⟩) rfl ?_
                simp only [Act.put, List.setIfInBounds_toArray, List.set_cons_zero, List.set_cons_succ]
                refine pure_ (i := 4) (N := some 56) #[true, true, true, true, true, false, false, false, false, false, false, false, false, false, false] rfl rfl (any_of HT_.out (by kernel_rfl)) (fun _ _ _ h => h) (Or.inr ⟨by rfl, rfl⟩) rfl ?_
                simp only [Act.put, List.setIfInBounds_toArray, List.set_cons_zero, List.set_cons_succ]
                refine pure_ (i := 5) (N := some 57) #[true, true, true, true, true, true, false, false, false, false, false, false, false, false, false] rfl rfl (any_of HT_.out (by kernel_rfl)) (fun _ _ _ h => h) (Or.inr ⟨by rfl, rfl⟩) rfl ?_
                simp only [Act.put, List.setIfInBounds_toArray, List.set_cons_zero, List.set_cons_succ]
                refine pure_ (i := 6) (N := some 58) #[true, true, true, true, true, true, true, false, false, false, false, false, false, false, false] rfl rfl (any_of HT_.out (by kernel_rfl)) (fun _ _ _ h => h) (Or.inr ⟨by rfl, rfl⟩) rfl ?_
                simp only [Act.put, List.setIfInBounds_toArray, List.set_cons_zero, List.set_cons_succ]
                refine pure_ (i := 7) (N := some 59) #[true, true, true, true, true, true, true, true, false, false, false, false, false, false, false] rfl rfl (any_of HT_.out (by kernel_rfl)) (fun _ _ _ h => h) (Or.inr ⟨by rfl, rfl⟩) rfl ?_
                simp only [Act.put, List.setIfInBounds_toArray, List.set_cons_zero, List.set_cons_succ]
                refine pure_ (i := 9) (N := some 61) #[true, true, true, true, true, true, true, true, false, true, false, false, false, false, false] rfl rfl (any_of HT_.out (by kernel_rfl)) (fun _ _ _ h => h) (Or.inr ⟨by rfl, rfl⟩) rfl ?_
                simp only [Act.put, List.setIfInBounds_toArray, List.set_cons_zero, List.set_cons_succ]
                refine take_ (i := 10) (N := some 62) #[true, true, true, true, true, true, true, true, false, true, true, false, false, false, false] rfl rfl (take_ofW HT_.out HW_.out (by kernel_rfl)) (fun _ _ _ h => h) (Or.inr ⟨by rfl, rfl⟩) hHeld rfl ?_
                simp only [Act.put, List.setIfInBounds_toArray, List.set_cons_zero, List.set_cons_succ]
                refine one_ (i := 8) (N := some 60) #[true, true, true, true, true, true, true, true, true, true, true, false, false, false, false] rfl rfl (one_of HT_.out (by kernel_rfl)) (by decide) (fun K hK => ?_)
                refine hK.out _ _ ⟨KX.out.c0, KX.out.c1⟩ (fun hHeld => ?_)
                clear hK K
                simp only [Act.put, List.setIfInBounds_toArray, List.set_cons_zero, List.set_cons_succ]
                refine one_ (i := 11) (N := some 63) #[true, true, true, true, true, true, true, true, true, true, true, true, false, false, false] rfl rfl (one_of HT_.out (by kernel_rfl)) (by decide) (fun K hK => ?_)
                refine hK.out _ _ ⟨KX.out.c0, KX.out.c1⟩ (fun hHeld => ?_)
                clear hK K
                simp only [Act.put, List.setIfInBounds_toArray, List.set_cons_zero, List.set_cons_succ]
                refine pure_ (i := 12) (N := some 64) #[true, true, true, true, true, true, true, true, true, true, true, true, true, false, false] rfl rfl (any_of HT_.out (by kernel_rfl)) (fun _ _ _ h => h) (Or.inr ⟨by rfl, rfl⟩) rfl ?_
                simp only [Act.put, List.setIfInBounds_toArray, List.set_cons_zero, List.set_cons_succ]
                refine pure_ (i := 13) (N := some 65) #[true, true, true, true, true, true, true, true, true, true, true, true, true, true, false] rfl rfl (any_of HT_.out (by kernel_rfl)) (fun _ _ _ h => h) (Or.inr ⟨by rfl, rfl⟩) rfl ?_
                simp only [Act.put, List.setIfInBounds_toArray, List.set_cons_zero, List.set_cons_succ]
                refine pure_ (i := 14) (N := some 66) (v := .bool false) #[true, true, true, true, true, true, true, true, true, true, true, true, true, true, true] rfl rfl (any_of HT_.out (by kernel_rfl)) (fun _ _ _ h => h) (Or.inl ⟨by rfl, fun w' => by go_simp⟩) rfl ?_
                simp only [Act.put, List.setIfInBounds_toArray, List.set_cons_zero, List.set_cons_succ]
                refine done_ (done_of HT_.out (by kernel_rfl)) ?_
                clear hHeld
                have HPT := Aside0.mk (show parB m x = true from HPB.out)
                clear HPB hq hnq
                go_wp2
                go_roundg k2
                case measure => omega
                case rel => exact ⟨i + 1, congrArg (Value.int IntKind.i64) (show (i : Int) + 1 = ((i + 1 : Nat) : Int) from rfl), KJ, KW, ⟨by rw [HEQ.out, HPT.out]; rfl⟩, ⟨by have := HK2.out; omega, by omega⟩⟩
              | false =>
                cases pk with
                | false =>
                  refine pure_ (i := 0) (N := some 52) (v := .pointer (some ⟨n, 0, none⟩)) #[true, false, false, false, false, false, false, false, false, false, false, false, false, false, false] rfl rfl (any_of HT_.out (by kernel_rfl)) (fun _ _ _ h => h) (Or.inl ⟨by rfl, fun w' => by go_simp⟩) rfl ?_
                  simp only [Act.put, List.setIfInBounds_toArray, List.set_cons_zero, List.set_cons_succ]
                  refine take_ (i := 1) (N := some 53) (v := .string x.f0) #[true, true, false, false, false, false, false, false, false, false, false, false, false, false, false] rfl rfl (take_ofW HT_.out HW_.out (by kernel_rfl)) (fun _ _ _ h => h) (Or.inl ⟨by rfl, fun w' hS => by obtain ⟨s0, s1⟩ := hS; go_simp⟩) hHeld rfl ?_
                  simp only [Act.put, List.setIfInBounds_toArray, List.set_cons_zero, List.set_cons_succ]
                  refine pure_ (i := 2) (N := some 54) (v := .bool true) #[true, true, true, false, false, false, false, false, false, false, false, false, false, false, false] rfl rfl (any_of HT_.out (by kernel_rfl)) (fun _ _ _ h => h) (Or.inl ⟨by rfl, fun w' => by go_simp⟩) rfl ?_
                  simp only [Act.put, List.setIfInBounds_toArray, List.set_cons_zero, List.set_cons_succ]
                  refine pure_ (i := 3) (N := some 55) (v := .bool true) #[true, true, true, true, false, false, false, false, false, false, false, false, false, false, false] rfl rfl (any_of HT_.out (by kernel_rfl)) (fun _ _ _ h => h) (Or.inl ⟨by rfl, fun w' => by go_simp⟩) rfl ?_
                  simp only [Act.put, List.setIfInBounds_toArray, List.set_cons_zero, List.set_cons_succ]
                  refine pure_ (i := 4) (N := some 56) (v := .bool false) #[true, true, true, true, true, false, false, false, false, false, false, false, false, false, false] rfl rfl (any_of HT_.out (by kernel_rfl)) (fun _ _ _ h => h) (Or.inl ⟨by rfl, fun w' => by go_simp⟩) rfl ?_
                  simp only [Act.put, List.setIfInBounds_toArray, List.set_cons_zero, List.set_cons_succ]
                  refine pure_ (i := 5) (N := some 57) (v := .bool true) #[true, true, true, true, true, true, false, false, false, false, false, false, false, false, false] rfl rfl (any_of HT_.out (by kernel_rfl)) (fun _ _ _ h => h) (Or.inl ⟨by rfl, fun w' => by go_simp⟩) rfl ?_
                  simp only [Act.put, List.setIfInBounds_toArray, List.set_cons_zero, List.set_cons_succ]
                  refine pure_ (i := 6) (N := some 58) (v := .bool true) #[true, true, true, true, true, true, true, false, false, false, false, false, false, false, false] rfl rfl (any_of HT_.out (by kernel_rfl)) (fun _ _ _ h => h) (Or.inl ⟨by rfl, fun w' => by go_simp⟩) rfl ?_
                  simp only [Act.put, List.setIfInBounds_toArray, List.set_cons_zero, List.set_cons_succ]
                  refine pure_ (i := 7) (N := some 59) #[true, true, true, true, true, true, true, true, false, false, false, false, false, false, false] rfl rfl (any_of HT_.out (by kernel_rfl)) (fun _ _ _ h => h) (Or.inr ⟨by rfl, rfl⟩) rfl ?_
                  simp only [Act.put, List.setIfInBounds_toArray, List.set_cons_zero, List.set_cons_succ]
                  refine pure_ (i := 9) (N := some 61) #[true, true, true, true, true, true, true, true, false, true, false, false, false, false, false] rfl rfl (any_of HT_.out (by kernel_rfl)) (fun _ _ _ h => h) (Or.inr ⟨by rfl, rfl⟩) rfl ?_
                  simp only [Act.put, List.setIfInBounds_toArray, List.set_cons_zero, List.set_cons_succ]
                  refine take_ (i := 10) (N := some 62) #[true, true, true, true, true, true, true, true, false, true, true, false, false, false, false] rfl rfl (take_ofW HT_.out HW_.out (by kernel_rfl)) (fun _ _ _ h => h) (Or.inr ⟨by rfl, rfl⟩) hHeld rfl ?_
                  simp only [Act.put, List.setIfInBounds_toArray, List.set_cons_zero, List.set_cons_succ]
                  refine one_ (i := 8) (N := some 60) #[true, true, true, true, true, true, true, true, true, true, true, false, false, false, false] rfl rfl (one_of HT_.out (by kernel_rfl)) (by decide) (fun K hK => ?_)
                  refine hK.out _ _ ⟨KX.out.c0, KX.out.c1⟩ (fun hHeld => ?_)
                  clear hK K
                  simp only [Act.put, List.setIfInBounds_toArray, List.set_cons_zero, List.set_cons_succ]
                  refine one_ (i := 11) (N := some 63) #[true, true, true, true, true, true, true, true, true, true, true, true, false, false, false] rfl rfl (one_of HT_.out (by kernel_rfl)) (by decide) (fun K hK => ?_)
                  refine hK.out _ _ ⟨KX.out.c0, KX.out.c1⟩ (fun hHeld => ?_)
                  clear hK K
                  simp only [Act.put, List.setIfInBounds_toArray, List.set_cons_zero, List.set_cons_succ]
                  refine pure_ (i := 12) (N := some 64) #[true, true, true, true, true, true, true, true, true, true, true, true, true, false, false] rfl rfl (any_of HT_.out (by kernel_rfl)) (fun _ _ _ h => h) (Or.inr ⟨by rfl, rfl⟩) rfl ?_
                  simp only [Act.put, List.setIfInBounds_toArray, List.set_cons_zero, List.set_cons_succ]
                  refine pure_ (i := 13) (N := some 65) (v := .bool true) #[true, true, true, true, true, true, true, true, true, true, true, true, true, true, false] rfl rfl (any_of HT_.out (by kernel_rfl)) (fun _ _ _ h => h) (Or.inl ⟨by rfl, fun w' => by go_simp⟩) rfl ?_
                  simp only [Act.put, List.setIfInBounds_toArray, List.set_cons_zero, List.set_cons_succ]
                  refine pure_ (i := 14) (N := some 66) (v := .bool true) #[true, true, true, true, true, true, true, true, true, true, true, true, true, true, true] rfl rfl (any_of HT_.out (by kernel_rfl)) (fun _ _ _ h => h) (Or.inl ⟨by rfl, fun w' => by go_simp⟩) rfl ?_
                  simp only [Act.put, List.setIfInBounds_toArray, List.set_cons_zero, List.set_cons_succ]
                  refine done_ (done_of HT_.out (by kernel_rfl)) ?_
                  clear hHeld
                  have HPT := Aside0.mk (show parB m x = false from HPB.out)
                  clear HPB hq hnq
                  go_wp2
                  go_ret
                  refine ⟨?_, KW.out⟩
                  rw [HST.out, HPT.out]
                  rfl
                | true =>
                  obtain ⟨r, hr⟩ : ∃ r, (small (L pv) == small (L x.f1)) = r := ⟨_, rfl⟩
                  have hnr : ((M (small (L pv))).toList != (M (small (L x.f1))).toList) = !r := by rw [M_toList, M_toList]; unfold bne; rw [hr]
                  rw [hr] at HPB
                  refine pure_ (i := 0) (N := some 52) (v := .pointer (some ⟨n, 0, none⟩)) #[true, false, false, false, false, false, false, false, false, false, false, false, false, false, false] rfl rfl (any_of HT_.out (by kernel_rfl)) (fun _ _ _ h => h) (Or.inl ⟨by rfl, fun w' => by go_simp⟩) rfl ?_
                  simp only [Act.put, List.setIfInBounds_toArray, List.set_cons_zero, List.set_cons_succ]
                  refine take_ (i := 1) (N := some 53) (v := .string x.f0) #[true, true, false, false, false, false, false, false, false, false, false, false, false, false, false] rfl rfl (take_ofW HT_.out HW_.out (by kernel_rfl)) (fun _ _ _ h => h) (Or.inl ⟨by rfl, fun w' hS => by obtain ⟨s0, s1⟩ := hS; go_simp⟩) hHeld rfl ?_
                  simp only [Act.put, List.setIfInBounds_toArray, List.set_cons_zero, List.set_cons_succ]
                  refine pure_ (i := 2) (N := some 54) (v := .bool true) #[true, true, true, false, false, false, false, false, false, false, false, false, false, false, false] rfl rfl (any_of HT_.out (by kernel_rfl)) (fun _ _ _ h => h) (Or.inl ⟨by rfl, fun w' => by go_simp⟩) rfl ?_
                  simp only [Act.put, List.setIfInBounds_toArray, List.set_cons_zero, List.set_cons_succ]
                  refine pure_ (i := 3) (N := some 55) (v := .bool true) #[true, true, true, true, false, false, false, false, false, false, false, false, false, false, false] rfl rfl (any_of HT_.out (by kernel_rfl)) (fun _ _ _ h => h) (Or.inl ⟨by rfl, fun w' => by go_simp⟩) rfl ?_
                  simp only [Act.put, List.setIfInBounds_toArray, List.set_cons_zero, List.set_cons_succ]
                  refine pure_ (i := 4) (N := some 56) (v := .bool true) #[true, true, true, true, true, false, false, false, false, false, false, false, false, false, false] rfl rfl (any_of HT_.out (by kernel_rfl)) (fun _ _ _ h => h) (Or.inl ⟨by rfl, fun w' => by go_simp⟩) rfl ?_
                  simp only [Act.put, List.setIfInBounds_toArray, List.set_cons_zero, List.set_cons_succ]
                  refine pure_ (i := 5) (N := some 57) (v := .bool false) #[true, true, true, true, true, true, false, false, false, false, false, false, false, false, false] rfl rfl (any_of HT_.out (by kernel_rfl)) (fun _ _ _ h => h) (Or.inl ⟨by rfl, fun w' => by go_simp⟩) rfl ?_
                  simp only [Act.put, List.setIfInBounds_toArray, List.set_cons_zero, List.set_cons_succ]
                  refine pure_ (i := 6) (N := some 58) (v := .bool false) #[true, true, true, true, true, true, true, false, false, false, false, false, false, false, false] rfl rfl (any_of HT_.out (by kernel_rfl)) (fun _ _ _ h => h) (Or.inl ⟨by rfl, fun w' => by go_simp⟩) rfl ?_
                  simp only [Act.put, List.setIfInBounds_toArray, List.set_cons_zero, List.set_cons_succ]
                  refine pure_ (i := 7) (N := some 59) (v := .string pv) #[true, true, true, true, true, true, true, true, false, false, false, false, false, false, false] rfl rfl (any_of HT_.out (by kernel_rfl)) (fun _ _ _ h => h) (Or.inl ⟨by rfl, fun w' => by go_simp⟩) rfl ?_
                  simp only [Act.put, List.setIfInBounds_toArray, List.set_cons_zero, List.set_cons_succ]
                  refine pure_ (i := 9) (N := some 61) (v := .pointer (some ⟨n, 1, none⟩)) #[true, true, true, true, true, true, true, true, false, true, false, false, false, false, false] rfl rfl (any_of HT_.out (by kernel_rfl)) (fun _ _ _ h => h) (Or.inl ⟨by rfl, fun w' => by go_simp⟩) rfl ?_
                  simp only [Act.put, List.setIfInBounds_toArray, List.set_cons_zero, List.set_cons_succ]
                  refine take_ (i := 10) (N := some 62) (v := .string x.f1) #[true, true, true, true, true, true, true, true, false, true, true, false, false, false, false] rfl rfl (take_ofW HT_.out HW_.out (by kernel_rfl)) (fun _ _ _ h => h) (Or.inl ⟨by rfl, fun w' hS => by obtain ⟨s0, s1⟩ := hS; go_simp⟩) hHeld rfl ?_
                  simp only [Act.put, List.setIfInBounds_toArray, List.set_cons_zero, List.set_cons_succ]
                  refine one_ (i := 8) (N := some 60) #[true, true, true, true, true, true, true, true, true, true, true, false, false, false, false] rfl rfl (one_of HT_.out (by kernel_rfl)) (by decide) (fun K hK => ?_)
                  refine goes_ Tryz.func25 (by kernel_rfl) rfl #[.string pv] (by rfl) rfl rfl (by (try simp only [List.map_toArray, List.map_cons, List.map_nil]); first | done | rfl) ?_
                  with_reducible refine (small_calls pv _ HSV.out).mono ?_
                  rintro e_ v1 ⟨rfl, h⟩
                  replace KX := Aside0.mk (KX.out.below h)
                  replace KJ := Aside0.mk (KJ.out.below h)
                  replace KW := Aside0.mk (KW.out.trans (h.mono KW.out.size))
                  clear h
                  refine ⟨_, rfl, ?_⟩
                  refine hK.out _ _ ⟨KX.out.c0, KX.out.c1⟩ (fun hHeld => ?_)
                  clear hK K
                  simp only [Act.put, List.setIfInBounds_toArray, List.set_cons_zero, List.set_cons_succ]
                  refine one_ (i := 11) (N := some 63) #[true, true, true, true, true, true, true, true, true, true, true, true, false, false, false] rfl rfl (one_of HT_.out (by kernel_rfl)) (by decide) (fun K hK => ?_)
                  refine goes_ Tryz.func25 (by kernel_rfl) rfl #[.string x.f1] (by rfl) rfl rfl (by (try simp only [List.map_toArray, List.map_cons, List.map_nil]); first | done | rfl) ?_
                  with_reducible refine (small_calls x.f1 _ HSX.out).mono ?_
                  rintro e_ v2 ⟨rfl, h⟩
                  replace KX := Aside0.mk (KX.out.below h)
                  replace KJ := Aside0.mk (KJ.out.below h)
                  replace KW := Aside0.mk (KW.out.trans (h.mono KW.out.size))
                  clear h
                  refine ⟨_, rfl, ?_⟩
                  refine hK.out _ _ ⟨KX.out.c0, KX.out.c1⟩ (fun hHeld => ?_)
                  clear hK K
                  simp only [Act.put, List.setIfInBounds_toArray, List.set_cons_zero, List.set_cons_succ]
                  refine pure_ (i := 12) (N := some 64) (v := .bool (!r)) #[true, true, true, true, true, true, true, true, true, true, true, true, true, false, false] rfl rfl (any_of HT_.out (by kernel_rfl)) (fun _ _ _ h => h) (Or.inl ⟨by rfl, fun w' => by go_simp⟩) rfl ?_
                  simp only [Act.put, List.setIfInBounds_toArray, List.set_cons_zero, List.set_cons_succ]
                  refine pure_ (i := 13) (N := some 65) (v := .bool (!r)) #[true, true, true, true, true, true, true, true, true, true, true, true, true, true, false] rfl rfl (any_of HT_.out (by kernel_rfl)) (fun _ _ _ h => h) (Or.inl ⟨by rfl, fun w' => by go_simp⟩) rfl ?_
                  simp only [Act.put, List.setIfInBounds_toArray, List.set_cons_zero, List.set_cons_succ]
                  refine pure_ (i := 14) (N := some 66) (v := .bool (!r)) #[true, true, true, true, true, true, true, true, true, true, true, true, true, true, true] rfl rfl (any_of HT_.out (by kernel_rfl)) (fun _ _ _ h => h) (Or.inl ⟨by rfl, fun w' => by go_simp⟩) rfl ?_
                  simp only [Act.put, List.setIfInBounds_toArray, List.set_cons_zero, List.set_cons_succ]
                  refine done_ (done_of HT_.out (by kernel_rfl)) ?_
                  clear hHeld
                  have HPT := Aside0.mk (show parB m x = r from HPB.out)
                  clear HPB hq hnq hr hnr
                  cases r with
                  | true =>
                    go_wp2
                    go_roundg k2
                    case measure => omega
                    case rel => exact ⟨i + 1, congrArg (Value.int IntKind.i64) (show (i : Int) + 1 = ((i + 1 : Nat) : Int) from rfl), KJ, KW, ⟨by rw [HEQ.out, HPT.out]; rfl⟩, ⟨by have := HK2.out; omega, by omega⟩⟩
                  | false =>
                    go_wp2
                    go_ret
                    refine ⟨?_, KW.out⟩
                    rw [HST.out, HPT.out]
                    rfl
            · have hlt : decide ((i : Int) < (l.length : Int)) = false := decide_eq_false (by omega)
              have HF := Aside0.mk (show R = true from by rw [← HR2.out, HE.out, List.drop_eq_nil_of_le (by omega)]; rfl)
              go_wp2
              go_ret
              rw [HF.out]
              exact ⟨rfl, HB2.out⟩
end Go.Proofs.YtdecjlkfpbgkgaaGreatDoor.X
namespace Go.Proofs.YtdecjlkfpbgkgaaGreatDoor.X
open Go.RowKit Go.Shelf Go.Proofs.YtdecjlkfpbgkgaaGreatDoorW.PrintWords Go.Proofs.YtdecjlkfpbgkgaaGreatDoorW.PrintLast Go.Proofs.YtdecjlkfpbgkgaaGreatDoorW.PrintMore Go.Proofs.YtdecjlkfpbgkgaaGreatDoor.F Go.Proofs.YtdecjlkfpbgkgaaGreatDoor.Pm
set_option linter.unusedVariables false
set_option linter.unusedSimpArgs false
def awkP : S38 := ⟨M [99, 104, 97, 114, 115, 101, 116], M [85, 84, 70, 45, 56]⟩
theorem awk_facts : ∃ (T1 T2 V Q : ByteArray) (P : S38), parseV (L ⟨#[84, 101, 120, 116, 47, 72, 84, 77, 76, 59, 32, 67, 104, 97, 114, 115, 101, 116, 61, 34, 85, 84, 70, 45, 56, 34]⟩) = (T1, T2, [P], 0) ∧ (T1.toList == [116, 101, 120, 116]) = true ∧ (T2.toList == [104, 116, 109, 108]) = true ∧ paramW [P] ⟨#[99, 104, 97, 114, 115, 101, 116]⟩ = (V, true) ∧ (V.toList == [85, 84, 70, 45, 56]) = true ∧ fitsV ⟨#[116, 101, 120, 116]⟩ ⟨#[42]⟩ [] T1 T2 [P] = true ∧ P.f1.size ≤ 1000 ∧ fieldTok (L P.f1) = true ∧ tot [P] + T1.size + T2.size ≤ 1000 ∧ M (headT T1 T2 ++ partsT [P]) = Q ∧ (Q.toList == [116, 101, 120, 116, 47, 104, 116, 109, 108, 59, 32, 99, 104, 97, 114, 115, 101, 116, 61, 85, 84, 70, 45, 56]) = true :=
  ⟨M [116, 101, 120, 116], M [104, 116, 109, 108], M [85, 84, 70, 45, 56], M [116, 101, 120, 116, 47, 104, 116, 109, 108, 59, 32, 99, 104, 97, 114, 115, 101, 116, 61, 85, 84, 70, 45, 56], awkP, by kernel_rfl, by rw [M_toList]; rfl, by rw [M_toList]; rfl, by kernel_rfl, by rw [M_toList]; rfl, by kernel_rfl, by decide +kernel, by kernel_rfl, by decide +kernel, by kernel_rfl, by rw [M_toList]; rfl⟩
set_option maxHeartbeats 8000000 in
set_option maxRecDepth 100000 in
theorem awake_calls (w : World) : Calls Tryz.prog 9 #[] w fun e w' => e = .returned (.bool true) ∧ Below w.heap.size w w' := by
  obtain ⟨T1, T2, V, Q, P, f1, t1, t2, f2, t3, f3, z1, f4, z2, f5, t4⟩ := awk_facts
  have hu25 := Tryz.underlying25
  have HF := Aside0.mk (And.intro f1 (And.intro f2 (And.intro f3 (And.intro f4 f5))))
  have HZ := Aside0.mk (And.intro z1 z2)
  clear f1 f2 f3 f4 f5 z1 z2
  go_enter Tryz.func9, Tryz.ntmps9
  go_wp2_with fail
  have m1 := mparse_calls ⟨#[84, 101, 120, 116, 47, 72, 84, 77, 76, 59, 32, 67, 104, 97, 114, 115, 101, 116, 61, 34, 85, 84, 70, 45, 56, 34]⟩ w (by decide)
  rw [HF.out.1] at m1
  refine m1.mono ?_
  clear m1
  rintro e w1 ⟨v1, rfl, r1, b1⟩
  obtain ⟨A, c, hv1, hc, hC⟩ := Kd.R_reads r1
  rw [show v1 = .slice A 1 c from hv1]
  have HK0 := Aside0.mk (Tri.new w1 25 (.string T1) (.string T2) (.slice A 1 c))
  have HC0 := Aside0.mk (Kd.C_below hC (show Below w1.heap.size w1 (w1.alloc (.cells #[.string T1, .string T2, .slice A 1 c] 25)) from (Below.refl _ _).alloc (Nat.le_refl _) _))
  have HB0 := Aside0.mk (b1.alloc b1.size (.cells #[.string T1, .string T2, .slice A 1 c] 25))
  have HB1 := Aside0.mk b1.size
  clear r1 hC b1 hv1 v1
  go_wp2_with fail
  generalize w1.alloc (.cells #[.string T1, .string T2, .slice A 1 c] 25) = W1 at HK0 HC0 HB0 ⊢
  have HG := Aside0.mk (show w.heap.size ≤ w1.heap.size from HB1.out)
  generalize w1.heap.size = n at HK0 HG ⊢
  have m2 := mparse_calls ⟨#[42, 47, 97]⟩ W1 (by decide)
  rw [show parseV (L ⟨#[42, 47, 97]⟩) = (⟨#[]⟩, ⟨#[]⟩, [], 130) from by kernel_rfl] at m2
  refine m2.mono ?_
  clear m2
  rintro e w2 ⟨v2, rfl, r2, b2⟩
  obtain ⟨A2, c2, hv2, _, _⟩ := Kd.R_reads r2
  rw [show v2 = .slice A2 0 c2 from hv2]
  have al : ∀ o : Obj, Below w2.heap.size w2 (w2.alloc o) := fun o => (Below.refl _ _).alloc (Nat.le_refl _) _
  have HK1 := Aside0.mk ((HK0.out.below b2).below (al (.cells #[.string ⟨#[]⟩, .string ⟨#[]⟩, .slice A2 0 c2] 25)))
  have HC1 := Aside0.mk (Kd.C_below (Kd.C_below HC0.out b2) (al (.cells #[.string ⟨#[]⟩, .string ⟨#[]⟩, .slice A2 0 c2] 25)))
  have HB2 := Aside0.mk ((HB0.out.trans (b2.mono HB0.out.size)).alloc (HB0.out.trans (b2.mono HB0.out.size)).size (.cells #[.string ⟨#[]⟩, .string ⟨#[]⟩, .slice A2 0 c2] 25))
  have d0 := HK1.out.c0
  have d1 := HK1.out.c1
  have d2 := HK1.out.c2
  clear r2 b2 hv2 v2 al HK0 HC0 HB0
  go_wp2_with fail
  have m3 := param_calls T1 T2 A c [P] ⟨#[99, 104, 97, 114, 115, 101, 116]⟩ _ HC1.out hc
  rw [HF.out.2.1] at m3
  refine m3.mono ?_
  clear m3
  rintro e w3 ⟨rfl, h3⟩
  have HK3 := Aside0.mk (HK1.out.below h3)
  have HC3 := Aside0.mk (Kd.C_below HC1.out h3)
  have HB3 := Aside0.mk (HB2.out.trans (h3.mono HB2.out.size))
  have e0 := HK3.out.c0
  have e1 := HK3.out.c1
  have e2 := HK3.out.c2
  clear h3 HK1 HC1 HB2 d0 d1 d2
  go_wp2_with fail
  refine (fits_calls ⟨#[116, 101, 120, 116]⟩ ⟨#[42]⟩ none 0 [] T1 T2 A c [P] w3 (Kd.C_nil _ _) (Nat.le_refl _) HC3.out hc (fun x hx => by cases hx) (fun x hx => by rw [List.mem_singleton.1 hx]; have := HZ.out.1; omega) true HF.out.2.2.1).mono ?_
  rintro e w4 ⟨rfl, h4⟩
  have HK4 := Aside0.mk (HK3.out.below h4)
  have HC4 := Aside0.mk (Kd.C_below HC3.out h4)
  have HB4 := Aside0.mk (HB3.out.trans (h4.mono HB3.out.size))
  have g0 := HK4.out.c0
  have g1 := HK4.out.c1
  have g2 := HK4.out.c2
  clear h4 HK3 HC3 HB3 e0 e1 e2
  go_wp2_with fail
  have m5 := mprint_calls T1 T2 A c [P] w4 HC4.out hc (by have := HZ.out.2; omega) (show 1 ≤ 1000000 by decide) (fun x hx => by rw [List.mem_singleton.1 hx]; exact HF.out.2.2.2.1)
  rw [HF.out.2.2.2.2] at m5
  refine m5.mono ?_
  clear m5
  rintro e w5 ⟨rfl, h5⟩
  have HB5 := Aside0.mk (HB4.out.trans (h5.mono HB4.out.size))
  clear h5
  go_wp2_with fail
  go_ret
  exact ⟨rfl, HB5.out⟩
end Go.Proofs.YtdecjlkfpbgkgaaGreatDoor.X
