/- media.Text's Params, walked by hand. -/
import Derived.Test.YtdecjlkfpbgkgaaGreatDoorXPar
import Derived.Test.YtdecjlkfpbgkgaaGreatDoorPm0
namespace Go.Proofs.YtdecjlkfpbgkgaaGreatDoor.X
open Go.RowKit Go.Shelf Go.Proofs.YtdecjlkfpbgkgaaGreatDoorW.PrintWords Go.Proofs.YtdecjlkfpbgkgaaGreatDoorW.PrintLast Go.Proofs.YtdecjlkfpbgkgaaGreatDoorW.PrintMore Go.Proofs.YtdecjlkfpbgkgaaGreatDoor.F Go.Proofs.YtdecjlkfpbgkgaaGreatDoor.Pm
set_option linter.unusedVariables false
set_option linter.unusedSimpArgs false
def skipL (l : Bs) : Bs := Lib.trimLeftS l [32, 9]
/-- The parameters at a text's head, which has no blanks there. -/
def paramsN : Nat → Bs → List S38 → Option (List S38)
  | 0, _, _ => none
  | f + 1, s, acc =>
    if s = [] then some acc
    else if Lib.hasPrefix s [59] = false then none
    else if (skipL (Lib.trimPrefix s [59])).takeWhile tokB = [] then none
    else if Lib.hasPrefix ((skipL (Lib.trimPrefix s [59])).dropWhile tokB) [61] = false then none
    else if (valueV (Lib.trimPrefix ((skipL (Lib.trimPrefix s [59])).dropWhile tokB) [61])).2.1 = false then none
    else paramsN f (skipL (valueV (Lib.trimPrefix ((skipL (Lib.trimPrefix s [59])).dropWhile tokB) [61])).2.2) (acc ++ [⟨M (small ((skipL (Lib.trimPrefix s [59])).takeWhile tokB)), M (valueV (Lib.trimPrefix ((skipL (Lib.trimPrefix s [59])).dropWhile tokB) [61])).1⟩])
def paramsL (s : Bs) : Option (List S38) := paramsN (s.length + 1) (skipL s) []
theorem skip_le (l : Bs) : (skipL l).length ≤ l.length := (List.dropWhile_suffix _).length_le
theorem hp_tp (s : Bs) (c : UInt8) (h : Lib.hasPrefix s [c] = true) : (Lib.trimPrefix s [c]).length + 1 = s.length := by
  unfold Lib.trimPrefix
  rw [if_pos h]
  cases s with
  | nil => cases h
  | cons a t => simp
theorem R_call {W W1 : World} {b base : Nat} {ok : Nat → Prop} {v t u : Value} {xs : List S38} (h : Kd.R k38 38 W base ok v xs) (hbx : Boxed W b 43 t) (hb : Below W.heap.size (W.setCell ⟨b, 0, none⟩ u) W1) : Kd.R k38 38 W1 base ok v xs :=
  Kd.R_below (Kd.R_set h hbx (by decide) 0 u) (by rw [Deep.nblk_setCell]; exact hb)
/-- What Params answers. -/
def ParR (b : Nat) (w : World) (o : Option (List S38)) (e : Ending) (w' : World) : Prop :=
  ∃ v0 : Value, e = .returned (.tuple #[v0, .bool o.isSome]) ∧ Kd.R k38 38 w' w.heap.size (fun _ => True) v0 (o.getD []) ∧ ∃ u : Value, Below w.heap.size (w.setCell ⟨b, 0, none⟩ u) w'
set_option maxHeartbeats 8000000 in
set_option maxRecDepth 100000 in
theorem params_calls (b : Nat) (s : ByteArray) (w : World) (hb : Boxed w b 43 (.string s)) (hs : s.size ≤ 1000000000) :
    Calls Tryz.prog 24 #[.pointer (some ⟨b, 0, none⟩)] w (ParR b w (paramsL (L s))) := by
  have HB0 := Lib.hid hb
  have hu38 := Tryz.underlying38
  obtain ⟨R, hR⟩ : ∃ R, paramsL (L s) = R := ⟨_, rfl⟩
  have HR := Aside0.mk hR
  rw [hR]
  clear hb hR
  go_enter Tryz.func24, Tryz.ntmps24
  go_wp2_with fail
  refine (skip_calls b s _ HB0.out).mono ?_
  rintro e w1 ⟨rfl, h1⟩
  have HW1 := Aside0.mk h1
  clear h1
  have hz : (L s).length = s.size := rfl
  have hz0 : (L s).length ≤ 1000000000 := hs
  go_wp2
  go_loopg [2] ((L s).length + 1) (fun kq v2 W => ∃ (cur : Bs) (acc : List S38), Aside0 (Below w.heap.size (w.setCell ⟨b, 0, none⟩ (.string (M cur))) W) ∧ Aside0 (Kd.R k38 38 W w.heap.size (fun _ => True) v2 acc) ∧ Aside0 (paramsN kq cur acc = R) ∧ Aside0 (cur.length < kq) ∧ Aside0 (acc.length + cur.length ≤ 1000000000))
  case atStart =>
    refine ⟨skipL (L s), [], HW1, ⟨Kd.R_nil _ _ _ _ _⟩, ⟨HR.out⟩, ⟨?_⟩, ⟨?_⟩⟩
    · have := skip_le (L s); omega
    · have := skip_le (L s); simp only [List.length_nil]; omega
  case round =>
    obtain ⟨cur, acc, HW, HO, HE, HK, HN⟩ := hrel
    cases gk with
    | zero => exact absurd HK.out (by omega)
    | succ k1 =>
      have hE := HE.out
      rw [paramsN] at hE
      have HBX := Aside0.mk (boxed_of HB0.out HW.out)
      by_cases c0 : cur = []
      · rw [if_pos c0] at hE
        subst c0
        have hc := HBX.out.cell
        have hf := HBX.out.frozen
        obtain ⟨m1, m2, m3⟩ := M_empty []
        have HR2 := Aside0.mk hE
        clear hE HE
        go_wp2
        go_ret2
        exact ⟨_, by rw [← HR2.out]; rfl, by rw [← HR2.out]; exact HO.out, _, HW.out⟩
      · rw [if_neg c0] at hE
        have hc := HBX.out.cell
        have hf := HBX.out.frozen
        obtain ⟨m1, m2, m3⟩ := M_empty cur
        have mc : cur.isEmpty = false := List.isEmpty_eq_false_iff.2 c0
        have mc2 : decide (cur = []) = false := decide_eq_false c0
        rw [mc] at m1 m2 m3
        have HR2 := Aside0.mk hE
        have HC0 := Aside0.mk c0
        clear hE HE
        go_wp2_with fail
        refine (take_calls b (M cur) ⟨#[59]⟩ _ HBX.out).mono ?_
        rintro e wA ⟨rfl, hA⟩
        have HWA := Aside0.mk (below_step HB0.out HW.out hA)
        have HOA := Aside0.mk (R_call HO.out HBX.out hA)
        clear hA hc hf m1 m2 m3 mc mc2 c0 HO HW HBX
        obtain ⟨q1, hq1⟩ : ∃ q, Lib.hasPrefix cur [59] = q := ⟨_, rfl⟩
        obtain ⟨l1, hl1⟩ : ∃ l, Lib.trimPrefix cur [59] = l := ⟨_, rfl⟩
        have HL1 := Aside0.mk (fun h : q1 = true => show l1.length + 1 = cur.length from by rw [← hl1]; exact hp_tp cur 59 (hq1.trans h))
        have hE := HR2.out
        rw [hq1, hl1] at hE
        rw [show Lib.hasPrefix (L (M cur)) (L ⟨#[59]⟩) = q1 from hq1]
        rw [show Lib.trimPrefix (L (M cur)) (L ⟨#[59]⟩) = l1 from hl1] at HWA
        clear hq1 hl1 HR2
        cases q1 with
        | false =>
          rw [if_pos rfl] at hE
          have HR2 := Aside0.mk hE
          clear hE
          go_wp2
          go_ret2
          exact ⟨_, by rw [← HR2.out]; rfl, by rw [← HR2.out]; exact Kd.R_nil _ _ _ _ _, _, HWA.out⟩
        | true =>
          rw [if_neg (by decide)] at hE
          have HR2 := Aside0.mk hE
          clear hE
          have HN1 := Aside0.mk (HL1.out rfl)
          clear HL1
          have HBA := Aside0.mk (boxed_of HB0.out HWA.out)
          go_wp2_with fail
          refine (skip_calls b (M l1) wA HBA.out).mono ?_
          rintro e wB ⟨rfl, hB⟩
          have HWB := Aside0.mk (below_step HB0.out HWA.out hB)
          have HOB := Aside0.mk (R_call HOA.out HBA.out hB)
          clear hB HWA HOA HBA
          obtain ⟨l2, hl2⟩ : ∃ l, skipL l1 = l := ⟨_, rfl⟩
          have HN2 := Aside0.mk (show l2.length ≤ l1.length from by rw [← hl2]; exact skip_le l1)
          rw [show Lib.trimLeftS (L (M l1)) [32, 9] = l2 from hl2] at HWB
          have hE := HR2.out
          rw [hl2] at hE
          clear HR2 hl2
          have HBB := Aside0.mk (boxed_of HB0.out HWB.out)
          have hsz : (M l2).size < 4611686018427387904 := by
            show l2.length < _
            have := HN2.out; have := HN1.out; have := HN.out
            omega
          have HR2 := Aside0.mk hE
          clear hE
          go_wp2_with fail
          refine (token_calls b (M l2) wB HBB.out hsz).mono ?_
          rintro e wC ⟨rfl, hC⟩
          clear hsz
          have hC2 : Below wB.heap.size (wB.setCell ⟨b, 0, none⟩ (.string (M (l2.dropWhile tokB)))) wC := by rw [hC]; have := Below.refl (wB.setCell ⟨b, 0, none⟩ (.string (M (l2.dropWhile tokB)))).heap.size (wB.setCell ⟨b, 0, none⟩ (.string (M (l2.dropWhile tokB)))); rwa [Deep.nblk_setCell] at this
          have HWC := Aside0.mk (below_step HB0.out HWB.out hC2)
          have HOC := Aside0.mk (R_call HOB.out HBB.out hC2)
          clear hC hC2 HWB HOB HBB
          rw [show (L (M l2)).takeWhile tokB = l2.takeWhile tokB from rfl]
          obtain ⟨n, hn⟩ : ∃ l, l2.takeWhile tokB = l := ⟨_, rfl⟩
          obtain ⟨l3, hl3⟩ : ∃ l, l2.dropWhile tokB = l := ⟨_, rfl⟩
          have HN3 := Aside0.mk (show n.length + l3.length = l2.length from by rw [← hn, ← hl3, ← List.length_append, List.takeWhile_append_dropWhile])
          have hE := HR2.out
          rw [hn, hl3] at hE
          rw [hl3] at HWC
          rw [hn]
          clear HR2 hn hl3
          have HBC := Aside0.mk (boxed_of HB0.out HWC.out)
          by_cases cn : n = []
          · rw [if_pos cn] at hE
            subst cn
            have HR2 := Aside0.mk hE
            clear hE
            obtain ⟨m1, m2, m3⟩ := M_empty []
            go_wp2
            go_ret2
            exact ⟨_, by rw [← HR2.out]; rfl, by rw [← HR2.out]; exact Kd.R_nil _ _ _ _ _, _, HWC.out⟩
          · rw [if_neg cn] at hE
            obtain ⟨m1, m2, m3⟩ := M_empty n
            rw [List.isEmpty_eq_false_iff.2 cn] at m1 m2 m3
            have HR2 := Aside0.mk hE
            clear hE
            have cn1 : decide (n = []) = false := decide_eq_false cn
            have cn2 : (n == []) = false := beq_eq_false_iff_ne.2 cn
            go_wp2_with fail
            refine (take_calls b (M l3) ⟨#[61]⟩ wC HBC.out).mono ?_
            rintro e wD ⟨rfl, hD⟩
            have HWD := Aside0.mk (below_step HB0.out HWC.out hD)
            have HOD := Aside0.mk (R_call HOC.out HBC.out hD)
            clear hD HWC HOC HBC m1 m2 m3
            obtain ⟨q2, hq2⟩ : ∃ q, Lib.hasPrefix l3 [61] = q := ⟨_, rfl⟩
            obtain ⟨l4, hl4⟩ : ∃ l, Lib.trimPrefix l3 [61] = l := ⟨_, rfl⟩
            have HN4 := Aside0.mk (show l4.length ≤ l3.length from by rw [← hl4]; exact tp_le l3 [61])
            have hE := HR2.out
            rw [hq2, hl4] at hE
            rw [show Lib.hasPrefix (L (M l3)) (L ⟨#[61]⟩) = q2 from hq2]
            rw [show Lib.trimPrefix (L (M l3)) (L ⟨#[61]⟩) = l4 from hl4] at HWD
            clear HR2 hq2 hl4
            cases q2 with
            | false =>
              rw [if_pos rfl] at hE
              have HR2 := Aside0.mk hE
              clear hE
              go_wp2
              go_ret2
              exact ⟨_, by rw [← HR2.out]; rfl, by rw [← HR2.out]; exact Kd.R_nil _ _ _ _ _, _, HWD.out⟩
            | true =>
              rw [if_neg (by decide)] at hE
              have HR2 := Aside0.mk hE
              clear hE
              have HBD := Aside0.mk (boxed_of HB0.out HWD.out)
              have hsz : (M l4).size ≤ 100000000000000 := by
                show l4.length ≤ _
                have := HN4.out; have := HN3.out; have := HN2.out; have := HN1.out; have := HN.out
                omega
              go_wp2_with fail
              refine (value_calls b (M l4) wD HBD.out hsz).mono ?_
              rintro e wE ⟨rfl, hE1⟩
              clear hsz
              have HWE := Aside0.mk (below_step HB0.out HWD.out hE1)
              have HOE := Aside0.mk (R_call HOD.out HBD.out hE1)
              clear hE1 HWD HOD HBD
              have HN5 := Aside0.mk (valueV_len l4)
              obtain ⟨v, hv⟩ : ∃ l, (valueV l4).1 = l := ⟨_, rfl⟩
              obtain ⟨ok, hok⟩ : ∃ l, (valueV l4).2.1 = l := ⟨_, rfl⟩
              obtain ⟨l5, hl5⟩ : ∃ l, (valueV l4).2.2 = l := ⟨_, rfl⟩
              have hE := HR2.out
              rw [hv, hok, hl5] at hE
              rw [hv, hl5] at HN5
              rw [show (valueV (L (M l4))).1 = v from hv, show (valueV (L (M l4))).2.1 = ok from hok]
              rw [show (valueV (L (M l4))).2.2 = l5 from hl5] at HWE
              clear HR2 hv hok hl5
              cases ok with
              | false =>
                rw [if_pos rfl] at hE
                have HR2 := Aside0.mk hE
                clear hE
                go_wp2
                go_ret2
                exact ⟨_, by rw [← HR2.out]; rfl, by rw [← HR2.out]; exact Kd.R_nil _ _ _ _ _, _, HWE.out⟩
              | true =>
                rw [if_neg (by decide)] at hE
                have HR2 := Aside0.mk hE
                clear hE
                have hsz : (M n).size ≤ 140737488355328 := by
                  show n.length ≤ _
                  have := HN3.out; have := HN2.out; have := HN1.out; have := HN.out
                  omega
                go_wp2_with fail
                refine (small_calls (M n) wE hsz).mono ?_
                rintro e wF ⟨rfl, hF⟩
                clear hsz
                have HWF := Aside0.mk (HWE.out.trans (hF.mono (by have := HWE.out.size; rw [Deep.nblk_setCell] at this; exact this)))
                have HOF := Aside0.mk (Kd.R_below HOE.out hF)
                clear hF HWE HOE
                rw [show small (L (M n)) = small n from rfl]
                go_wp2_with (first | ((with_reducible refine gate_builtin (b := .append) (xs := #[.tmp 36, .tmp 41]) rfl ?_); at_builtin; refine Kd.R_append k38 (w0 := w.setCell ⟨b, 0, none⟩ (.string (M l5))) (W := wF) w.heap.size rfl (.tmp 36) (.tmp 41) 23 38 (.agg #[.string ⟨#[]⟩, .string ⟨#[]⟩]) 32 rfl Tryz.underlying23 info38 rfl (by decide) (by omega) u2 acc (⟨M (small n), M v⟩ : S38) [.string (M (small n)), .string (M v)] (fun _ => True) (fun _ => False) rfl rfl ?aP (fun _ hk => hk.elim) ?aF ?aO ?aB ?aS ?aL ?_; (case aP => exact k38_mkM _ _ _ (⟨M (small n), M v⟩ : S38)); (case aB => exact HWF.out); (case aF => exact (fun _ _ => trivial)); (case aO => exact HOF.out); (case aS => have := HWF.out.size; rw [Deep.nblk_setCell] at this; exact this); (case aL => have := HN.out; omega); intro v9 w9 ho hb9 hg hat; have HO9 := Aside0.mk ho; have HW9 := Aside0.mk hb9; clear ho hb9 hg hat))
                have HB9 := Aside0.mk (boxed_of HB0.out HW9.out)
                refine (skip_calls b (M l5) w9 HB9.out).mono ?_
                rintro e wG ⟨rfl, hG⟩
                have HWG := Aside0.mk (below_step HB0.out HW9.out hG)
                have HOG := Aside0.mk (R_call HO9.out HB9.out hG)
                clear hG HW9 HO9 HB9 HWF HOF
                go_wp2
                go_roundg k1
                case measure => omega
                case rel =>
                  refine ⟨skipL l5, acc ++ [⟨M (small n), M v⟩], HWG, HOG, HR2, ⟨?_⟩, ⟨?_⟩⟩
                  · have h1 := skip_le l5; have := HN5.out; have := HN4.out; have := HN3.out; have := HN2.out; have := HN1.out; have := HK.out; omega
                  · have h1 := skip_le l5; have := HN5.out; have := HN4.out; have := HN3.out; have := HN2.out; have := HN1.out; have := HN.out; rw [List.length_append, List.length_singleton]; omega
end Go.Proofs.YtdecjlkfpbgkgaaGreatDoor.X
