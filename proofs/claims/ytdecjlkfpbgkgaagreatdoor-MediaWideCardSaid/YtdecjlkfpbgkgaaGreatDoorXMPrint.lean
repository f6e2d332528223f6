/- media's quote and Print where every value is a token, walked by hand. -/
import Derived.Test.YtdecjlkfpbgkgaaGreatDoorXMParse
namespace Go.Proofs.YtdecjlkfpbgkgaaGreatDoor.X
open Go.RowKit Go.Shelf Go.Proofs.YtdecjlkfpbgkgaaGreatDoorW.PrintWords Go.Proofs.YtdecjlkfpbgkgaaGreatDoorW.PrintLast Go.Proofs.YtdecjlkfpbgkgaaGreatDoorW.PrintMore Go.Proofs.YtdecjlkfpbgkgaaGreatDoor.F Go.Proofs.YtdecjlkfpbgkgaaGreatDoor.Pm
set_option linter.unusedVariables false
set_option linter.unusedSimpArgs false
theorem tok_parts (l : Bs) (h : fieldTok l = true) : l.takeWhile tokB = l ∧ l.dropWhile tokB = [] ∧ l ≠ [] := by
  unfold fieldTok at h
  rw [Bool.and_eq_true] at h
  have h2 : l.dropWhile tokB = [] := List.isEmpty_iff.1 h.2
  have e := List.takeWhile_append_dropWhile (p := tokB) (l := l)
  rw [h2, List.append_nil] at e
  refine ⟨e, h2, ?_⟩
  rintro rfl
  cases h.1
set_option maxHeartbeats 4000000 in
set_option maxRecDepth 100000 in
theorem quote_tok (v : ByteArray) (w : World) (hv : fieldTok (L v) = true) (hs : v.size < 4611686018427387904) :
    Calls Tryz.prog 32 #[.string v] w fun e w' => e = .returned (.string v) ∧ Below w.heap.size w w' := by
  have hb := Boxed.new w 43 (.string v)
  have hB0 : Below w.heap.size w (w.alloc (.cells #[.string v] 43)) := (Below.refl _ _).alloc (Nat.le_refl _) _
  obtain ⟨p1, p2, p3⟩ := tok_parts _ hv
  have HP1 := Aside0.mk p1
  have HP2 := Aside0.mk p2
  have HB := Aside0.mk hb
  have HBE := Aside0.mk hB0
  obtain ⟨m1, m2, m3⟩ := M_empty (L v)
  have mc : (L v).isEmpty = false := List.isEmpty_eq_false_iff.2 p3
  rw [mc] at m1 m2 m3
  have q1 : v.toList.isEmpty = false := m1
  have q2 : (v.toList == ([] : List UInt8)) = false := m2
  have q3 : (v.toList != ([] : List UInt8)) = true := m3
  clear p1 p2 p3 hb hB0 hv m1 m2 m3 mc
  go_enter Tryz.func32, Tryz.ntmps32
  go_wp2_with fail
  refine (token_calls w.heap.size v _ HB.out hs).mono ?_
  rintro e w2 ⟨rfl, h2⟩
  rw [HP2.out] at h2
  rw [show M ((L v).takeWhile tokB) = v from by rw [HP1.out]]
  have hb2 : Boxed w2 w.heap.size 43 (.string (M [])) := by rw [h2]; exact HB.out.set _
  have hB2 : Below w.heap.size w w2 := by rw [h2]; exact HBE.out.setCell (p := ⟨w.heap.size, 0, none⟩) (Nat.le_refl _) _
  have HB2 := Aside0.mk hB2
  have hc := hb2.cell
  have hf := hb2.frozen
  obtain ⟨n1, n2, n3⟩ := M_empty []
  clear h2 hb2 hB2
  go_wp2
  go_ret
  exact ⟨rfl, HB2.out⟩
def partT (x : S38) : Bs := [59, 32] ++ L x.f0 ++ [61] ++ L x.f1
def partsT (l : List S38) : Bs := l.flatMap partT
def headT (t u : ByteArray) : Bs := L t ++ [47] ++ L u
def tot : List S38 → Nat
  | [] => 0
  | x :: r => x.f0.size + x.f1.size + 3 + tot r
theorem tot_append (l r : List S38) : tot (l ++ r) = tot l + tot r := by
  induction l with
  | nil => simp [tot]
  | cons x l ih => simp only [List.cons_append, tot, ih]; omega
theorem parts_len : ∀ l : List S38, (partsT l).length = tot l
  | [] => rfl
  | x :: r => by
    show (partT x ++ partsT r).length = _
    rw [List.length_append, parts_len r]
    unfold partT
    simp only [List.length_append, List.length_cons, List.length_nil, tot]
    show 0 + 1 + 1 + x.f0.size + (0 + 1) + x.f1.size + _ = _
    omega
theorem tot_take (l : List S38) (i : Nat) (h : i < l.length) : tot (l.take i) + (l[i].f0.size + l[i].f1.size + 3) ≤ tot l := by
  have e : l = l.take i ++ l[i] :: l.drop (i + 1) := by rw [← List.drop_eq_getElem_cons h, List.take_append_drop]
  have h1 : tot l = tot (l.take i) + (l[i].f0.size + l[i].f1.size + 3 + tot (l.drop (i + 1))) := by
    conv => lhs; rw [e]
    rw [tot_append]
    rfl
  omega
def Two (W : World) (n : Nat) (t : TypeId) (u v : Value) : Prop := W.heap[n]? = some (.cells #[u, v] t (0, 0))
theorem Two.new (W : World) (t : TypeId) (u v : Value) : Two (W.alloc (.cells #[u, v] t)) W.heap.size t u v := World.alloc_heap_new W _
theorem Two.lt {W : World} {n : Nat} {t : TypeId} {u v : Value} (h : Two W n t u v) : n < W.heap.size := (Array.getElem?_eq_some_iff.1 h).1
theorem Two.c0 {W : World} {n : Nat} {t : TypeId} {u v : Value} (h : Two W n t u v) : W.cell? ⟨n, 0, none⟩ = some u := by simp [World.cell?, show W.heap[n]? = _ from h]
theorem Two.c1 {W : World} {n : Nat} {t : TypeId} {u v : Value} (h : Two W n t u v) : W.cell? ⟨n, 1, none⟩ = some v := by simp [World.cell?, show W.heap[n]? = _ from h]
theorem Two.below {W W' : World} {n : Nat} {t : TypeId} {u v : Value} (h : Two W n t u v) (hb : Below W.heap.size W W') : Two W' n t u v := (hb.block n h.lt).trans h
theorem write_kept (B b : Nat) (l : List UInt8) (s : ByteArray) (w : World) (h : Bl B b l w) (hlen : l.length + s.size ≤ 140737488355328) (hBw : B ≤ w.heap.size) :
    Calls Tryz.prog 31 #[.pointer (some ⟨b, 0, none⟩), .string s] w fun e w' => e = .returned (.tuple #[.int .i64 s.size, .nilIface]) ∧ Bl B b (l ++ L s) w' ∧ Below B w w' ∧ Lib.OthersKept 5 (some b) w w' := by
  refine (Tryz.Builder_WriteString_k B b (Lib.byteCells l) s w h (by rw [Lib.byteCells_length]; exact hlen) hBw).mono ?_
  rintro e w' ⟨rfl, h1, h2, h3⟩
  refine ⟨rfl, .inr ?_, h2, h3⟩
  have e1 : Lib.byteCells (l ++ L s) = Lib.byteCells l ++ Lib.strCells s := by simp [Lib.byteCells, Lib.strCells, L]
  rw [e1]
  exact h1
theorem Two.kept {W W' : World} {n b : Nat} {u v : Value} (h : Two W n 38 u v) (hk : Lib.OthersKept 5 (some b) W W') (hn : n ≠ b) : Two W' n 38 u v :=
  hk n _ h (fun e => hn (Option.some.inj e)) (fun c fz hh => by injection hh with _ h5 _; exact absurd h5 (by decide))
def printT6 : Bool × List (List Nat × List Nat) := (true, [([], []), ([0], [0]), ([1], [1]), ([2], [2]), ([], []), ([4], [4]), ([5], [5]), ([3, 6], [3, 6]), ([7, 6], [7])])
def printB6 : List Nat := [0, 1, 3, 7, 0, 16, 48, 127, 255]
theorem print_tab6 : rtab .any (opsOf Tryz.f18 6) = printT6 := by kernel_rfl
theorem print_bits6 : waitsOk printT6.2 printB6 = true := by kernel_rfl
set_option maxHeartbeats 8000000 in
set_option maxRecDepth 100000 in
theorem mprint_calls (t u : ByteArray) (A : Option Addr) (c : Nat) (l : List S38) (w : World) (hC : Kd.C k38 w A l.length l) (hc : l.length ≤ c) (ht : tot l + t.size + u.size ≤ 1000000) (hl : l.length ≤ 1000000) (hv : ∀ x ∈ l, fieldTok (L x.f1) = true) :
    Calls Tryz.prog 18 #[.agg #[.string t, .string u, .slice A l.length c]] w fun e w' => e = .returned (.string (M (headT t u ++ partsT l))) ∧ Below w.heap.size w w' := by
  have HC := Aside0.mk hC
  have HT := Aside0.mk ht
  have HV := Aside0.mk hv
  have hu25 := Tryz.underlying25
  have hu38 := Tryz.underlying38
  have hu56 := Tryz.underlying56
  have hk0 := Tri.new w 25 (.string t) (.string u) (.slice A l.length c)
  have hB0 : Below w.heap.size w (w.alloc (.cells #[.string t, .string u, .slice A l.length c] 25)) := (Below.refl _ _).alloc (Nat.le_refl _) _
  have hs0 : (w.alloc (.cells #[.string t, .string u, .slice A l.length c] 25)).heap.size = w.heap.size + 1 := World.size_alloc _ _
  obtain ⟨W0, hW0⟩ : ∃ x, w.alloc (.cells #[.string t, .string u, .slice A l.length c] 25) = x := ⟨_, rfl⟩
  rw [hW0] at hk0 hB0 hs0
  have hbl := Bl.new W0
  have hk1 := hk0.below ((Below.refl W0.heap.size W0).alloc (Nat.le_refl _) (.cells #[.pointer none, .slice none 0 0] 56))
  have hB1 : Below w.heap.size w (W0.alloc (.cells #[.pointer none, .slice none 0 0] 56)) := hB0.alloc hB0.size _
  have hs1 : (W0.alloc (.cells #[.pointer none, .slice none 0 0] 56)).heap.size = w.heap.size + 2 := by rw [World.size_alloc, hs0]
  obtain ⟨W1, hW1⟩ : ∃ x, W0.alloc (.cells #[.pointer none, .slice none 0 0] 56) = x := ⟨_, rfl⟩
  rw [hW1] at hk1 hB1 hs1 hbl
  rw [hs0] at hbl
  clear hC ht hv hk0 hB0
  have d0 := hk1.c0
  have d1 := hk1.c1
  have d2 := hk1.c2
  go_enter Tryz.func18, Tryz.ntmps18
  have z1 : (9223372036854775807 < t.size + 1) = False := eq_false (by have := HT.out; omega)
  have z2 : (9223372036854775807 < t.size + 1 + u.size) = False := eq_false (by have := HT.out; omega)
  go_wp2_with fail
  have hlen : ([] : List UInt8).length + (t ++ ⟨#[47]⟩ ++ u).size ≤ 140737488355328 := by
    rw [ByteArray.size_append, ByteArray.size_append, show (⟨#[47]⟩ : ByteArray).size = 1 from rfl]
    have := HT.out
    simp only [List.length_nil]
    omega
  have hBw : w.heap.size + 1 ≤ W1.heap.size := by omega
  with_reducible refine (write_calls (w.heap.size + 1) (w.heap.size + 1) [] (t ++ ⟨#[47]⟩ ++ u) W1 hbl hlen hBw).mono ?_
  rintro e W2 ⟨rfl, h1, h2⟩
  have e0 : [] ++ L (t ++ ⟨#[47]⟩ ++ u) = headT t u := by unfold headT; rw [List.nil_append]; show (t ++ ⟨#[47]⟩ ++ u).data.toList = _; rw [ByteArray.data_append, ByteArray.data_append, Array.toList_append, Array.toList_append]
  rw [e0] at h1
  have HBL := Aside0.mk h1
  have HK := Aside0.mk (show Tri W2 w.heap.size 25 (.string t) (.string u) (.slice A l.length c) from (h2.block w.heap.size (by omega)).trans hk1)
  have HBW := Aside0.mk (show Below w.heap.size w W2 from hB1.trans (h2.mono (by omega)))
  have HS := Aside0.mk (show w.heap.size + 2 ≤ W2.heap.size from by have := h2.size; omega)
  clear hlen hBw hW1 hW0 hs0 hs1 h1 h2 e0 hbl hk1 hB1 d0 d1 d2 z1 z2
  have d2 := HK.out.c2
  go_wp2_with fail
  go_loopg [16] (l.length + 1) (fun kq v16 wr => ∃ (i : Nat), v16 = .int .i64 i ∧ Aside0 (Bl (w.heap.size + 1) (w.heap.size + 1) (headT t u ++ partsT (l.take i)) wr) ∧ Aside0 (Below w.heap.size w wr) ∧ Aside0 (w.heap.size + 2 ≤ wr.heap.size) ∧ Aside0 (i + kq = l.length + 1 ∧ i ≤ l.length))
  case atStart => exact ⟨0, rfl, ⟨by rw [List.take_zero]; show Bl _ _ (headT t u ++ []) _; rw [List.append_nil]; exact HBL.out⟩, HBW, HS, ⟨by omega, by omega⟩⟩
  case round =>
    obtain ⟨i, rfl, HBl, HB, HS2, HK2⟩ := hrel
    cases gk with
    | zero => exact absurd HK2.out (by omega)
    | succ k1 =>
      by_cases hi : i < l.length
      · obtain ⟨ad, rfl, x0, x1⟩ := at_T38 (Kd.C_below HC.out HB.out) (i : Int) (by omega) (by omega)
        have hrd : rd_T38 l (i : Int) = l[i]'hi := by
          unfold rd_T38
          rw [Int.toNat_natCast, List.getD_eq_getElem?_getD, List.getElem?_eq_getElem hi, Option.getD_some]
        have HT2 := Aside0.mk (tot_take l i hi)
        have HSs := Aside0.mk (List.take_succ_eq_append_getElem (l := l) (i := i) hi)
        have HV2 := Aside0.mk (HV.out _ (List.getElem_mem hi))
        rw [hrd] at x0 x1
        clear hrd
        generalize l[i]'hi = x at x0 x1 HT2 HSs HV2
        rw [Int.toNat_natCast] at x0 x1
        have hlt : decide ((i : Int) < (l.length : Int)) = true := decide_eq_true (by omega)
        have p1 := eq_true (show 0 ≤ (i : Int) by omega)
        have p2 := eq_true (show (i : Int) < (l.length : Int) by omega)
        have hz0 : x.f0.size + x.f1.size + 3 ≤ 1000000 := by have := HT2.out; have := HT.out; omega
        have z3 : (9223372036854775807 < 2 + x.f0.size) = False := eq_false (by omega)
        have z4 : (9223372036854775807 < 2 + x.f0.size + 1) = False := eq_false (by omega)
        have z5 : (9223372036854775807 < 2 + x.f0.size + 1 + x.f1.size) = False := eq_false (by omega)
        go_wp2_with fail
        have KX := Aside0.mk (Two.new wr 38 (.string x.f0) (.string x.f1))
        have KB := Aside0.mk (HBl.out.below ((Below.refl _ wr).alloc (Nat.le_refl _) (.cells #[.string x.f0, .string x.f1] 38)))
        have KW := Aside0.mk (HB.out.alloc HB.out.size (.cells #[.string x.f0, .string x.f1] 38))
        have KS := Aside0.mk (show w.heap.size + 2 ≤ (wr.alloc (.cells #[.string x.f0, .string x.f1] 38)).heap.size from by rw [World.size_alloc]; have := HS2.out; omega)
        have hlen : (headT t u ++ partsT (l.take i)).length + (⟨#[59, 32]⟩ ++ x.f0 ++ ⟨#[61]⟩ ++ x.f1 : ByteArray).size ≤ 140737488355328 := by
          rw [List.length_append, parts_len, ByteArray.size_append, ByteArray.size_append, ByteArray.size_append, show (⟨#[59, 32]⟩ : ByteArray).size = 2 from rfl, show (⟨#[61]⟩ : ByteArray).size = 1 from rfl]
          have h1 := HT2.out
          have h2 := HT.out
          have h3 : (headT t u).length = t.size + 1 + u.size := by unfold headT; simp only [List.length_append, List.length_cons, List.length_nil]; rfl
          omega
        generalize wr.alloc (.cells #[.string x.f0, .string x.f1] 38) = W3 at KX KB KW KS ⊢
        have KN := Aside0.mk HS2.out
        generalize wr.heap.size = n at KX KN ⊢
        refine start_ (n := 9) (S := fun w' => w'.cell? ⟨n, 0, none⟩ = some (.string x.f0) ∧ w'.cell? ⟨n, 1, none⟩ = some (.string x.f1)) (ds := []) #[false, false, false, false, false, false, false, false, false] (by kernel_rfl) rfl rfl ⟨KX.out.c0, KX.out.c1⟩ (fun hHeld => ?_)
        refine with_tabW print_tab6 print_bits6 (fun HT_ HW_ => ?_)
        have hd : Below W3.heap.size W3 W3.drew := (Below.refl _ _).drew
        replace KX := Aside0.mk (KX.out.below hd)
        replace KB := Aside0.mk (KB.out.below hd)
        replace KW := Aside0.mk (KW.out.trans (hd.mono KW.out.size))
        replace KS := Aside0.mk (Nat.le_trans KS.out hd.size)
        clear hd
        generalize World.drew _ = v0 at KX KB KW KS hHeld ⊢
        refine pure_ (i := 0) (N := some 20) (v := .pointer (some ⟨n, 0, none⟩)) #[true, false, false, false, false, false, false, false, false] rfl rfl (any_of HT_.out (by kernel_rfl)) (fun _ _ _ h => h) (Or.inl ⟨by rfl, fun w' => by go_simp⟩) rfl ?_
        simp only [Act.put, List.setIfInBounds_toArray, List.set_cons_zero, List.set_cons_succ]
        refine take_ (i := 1) (N := some 21) (v := .string x.f0) #[true, true, false, false, false, false, false, false, false] rfl rfl (take_ofW HT_.out HW_.out (by kernel_rfl)) (fun _ _ _ h => h) (Or.inl ⟨by rfl, fun w' hS => by obtain ⟨s0, s1⟩ := hS; go_simp⟩) hHeld rfl ?_
        simp only [Act.put, List.setIfInBounds_toArray, List.set_cons_zero, List.set_cons_succ]
        refine pure_ (i := 2) (N := some 22) (v := .string (⟨#[59, 32]⟩ ++ x.f0)) #[true, true, true, false, false, false, false, false, false] rfl rfl (any_of HT_.out (by kernel_rfl)) (fun _ _ _ h => h) (Or.inl ⟨by rfl, fun w' => by go_simp⟩) rfl ?_
        simp only [Act.put, List.setIfInBounds_toArray, List.set_cons_zero, List.set_cons_succ]
        refine pure_ (i := 3) (N := some 23) (v := .string (⟨#[59, 32]⟩ ++ x.f0 ++ ⟨#[61]⟩)) #[true, true, true, true, false, false, false, false, false] rfl rfl (any_of HT_.out (by kernel_rfl)) (fun _ _ _ h => h) (Or.inl ⟨by rfl, fun w' => by go_simp⟩) rfl ?_
        simp only [Act.put, List.setIfInBounds_toArray, List.set_cons_zero, List.set_cons_succ]
        refine pure_ (i := 4) (N := some 24) (v := .pointer (some ⟨n, 1, none⟩)) #[true, true, true, true, true, false, false, false, false] rfl rfl (any_of HT_.out (by kernel_rfl)) (fun _ _ _ h => h) (Or.inl ⟨by rfl, fun w' => by go_simp⟩) rfl ?_
        simp only [Act.put, List.setIfInBounds_toArray, List.set_cons_zero, List.set_cons_succ]
        refine take_ (i := 5) (N := some 25) (v := .string x.f1) #[true, true, true, true, true, true, false, false, false] rfl rfl (take_ofW HT_.out HW_.out (by kernel_rfl)) (fun _ _ _ h => h) (Or.inl ⟨by rfl, fun w' hS => by obtain ⟨s0, s1⟩ := hS; go_simp⟩) hHeld rfl ?_
        simp only [Act.put, List.setIfInBounds_toArray, List.set_cons_zero, List.set_cons_succ]
        refine one_ (i := 6) (N := some 26) #[true, true, true, true, true, true, true, false, false] rfl rfl (one_of HT_.out (by kernel_rfl)) (by decide) (fun K hK => ?_)
        refine goes_ Tryz.func32 (by kernel_rfl) rfl #[.string x.f1] (by rfl) rfl rfl (by (try simp only [List.map_toArray, List.map_cons, List.map_nil]); first | done | rfl) ?_
        with_reducible refine (quote_tok x.f1 _ HV2.out (by omega)).mono ?_
        rintro e_ v1 ⟨rfl, h⟩
        replace KX := Aside0.mk (KX.out.below h)
        replace KB := Aside0.mk (KB.out.below h)
        replace KW := Aside0.mk (KW.out.trans (h.mono KW.out.size))
        replace KS := Aside0.mk (Nat.le_trans KS.out h.size)
        clear h
        refine ⟨_, rfl, ?_⟩
        refine hK.out _ _ ⟨KX.out.c0, KX.out.c1⟩ (fun hHeld => ?_)
        clear hK K
        simp only [Act.put, List.setIfInBounds_toArray, List.set_cons_zero, List.set_cons_succ]
        refine pure_ (i := 7) (N := some 27) (v := .string (⟨#[59, 32]⟩ ++ x.f0 ++ ⟨#[61]⟩ ++ x.f1)) #[true, true, true, true, true, true, true, true, false] rfl rfl (any_of HT_.out (by kernel_rfl)) (fun _ _ _ h => h) (Or.inl ⟨by rfl, fun w' => by go_simp⟩) rfl ?_
        simp only [Act.put, List.setIfInBounds_toArray, List.set_cons_zero, List.set_cons_succ]
        refine one_ (i := 8) (N := some 28) #[true, true, true, true, true, true, true, true, true] rfl rfl (one_of HT_.out (by kernel_rfl)) (by decide) (fun K hK => ?_)
        refine goes_ Tryz.func31 (by kernel_rfl) rfl #[.pointer (some ⟨w.heap.size + 1, 0, none⟩), .string (⟨#[59, 32]⟩ ++ x.f0 ++ ⟨#[61]⟩ ++ x.f1)] (by rfl) rfl rfl (by (try simp only [List.map_toArray, List.map_cons, List.map_nil]); first | done | rfl) ?_
        with_reducible refine (write_kept (w.heap.size + 1) (w.heap.size + 1) _ (⟨#[59, 32]⟩ ++ x.f0 ++ ⟨#[61]⟩ ++ x.f1) _ KB.out hlen (by have := KS.out; omega)).mono ?_
        rintro e_ v2 ⟨rfl, h1, h2, h3⟩
        replace KX := Aside0.mk (KX.out.kept h3 (by have := KN.out; omega))
        have KB9 := Aside0.mk h1
        replace KW := Aside0.mk (KW.out.trans (h2.mono (by omega)))
        replace KS := Aside0.mk (Nat.le_trans KS.out h2.size)
        clear h1 h2 KB
        refine ⟨_, rfl, ?_⟩
        refine hK.out _ _ ⟨KX.out.c0, KX.out.c1⟩ (fun hHeld => ?_)
        clear hK K
        simp only [Act.put, List.setIfInBounds_toArray, List.set_cons_zero, List.set_cons_succ]
        refine done_ (done_of HT_.out (by kernel_rfl)) ?_
        clear hHeld
        have hfin : headT t u ++ partsT (l.take i) ++ L (⟨#[59, 32]⟩ ++ x.f0 ++ ⟨#[61]⟩ ++ x.f1) = headT t u ++ partsT (l.take (i + 1)) := by
          rw [HSs.out]
          unfold partsT
          rw [List.flatMap_append, List.append_assoc]
          congr 1
          simp only [List.flatMap_cons, List.flatMap_nil, List.append_nil]
          unfold partT
          show _ ++ (⟨#[59, 32]⟩ ++ x.f0 ++ ⟨#[61]⟩ ++ x.f1 : ByteArray).data.toList = _
          rw [ByteArray.data_append, ByteArray.data_append, ByteArray.data_append, Array.toList_append, Array.toList_append, Array.toList_append]
        have hK9 := KB9.out
        rw [hfin] at hK9
        have HK9 := Aside0.mk hK9
        clear hK9 hfin KB9
        go_wp2
        go_roundg k1
        case measure => omega
        case rel => exact ⟨i + 1, congrArg (Value.int IntKind.i64) (show (i : Int) + 1 = ((i + 1 : Nat) : Int) from rfl), HK9, KW, KS, ⟨by have := HK2.out; omega, by omega⟩⟩
      · have hlt : decide ((i : Int) < (l.length : Int)) = false := decide_eq_false (by omega)
        have hall : l.take i = l := List.take_of_length_le (by omega)
        rw [hall] at HBl
        have HW := Aside0.mk (show w.heap.size + 1 ≤ W2.heap.size from by have := HS.out; omega)
        go_wp2_with fail
        refine (string_calls _ _ _ _ HBl.out (by have := HS2.out; omega)).mono ?_
        rintro e w9 ⟨rfl, h9⟩
        have HF := Aside0.mk (HB.out.trans (h9.mono (by omega)))
        clear h9
        go_wp2
        go_ret
        exact ⟨rfl, HF.out⟩
end Go.Proofs.YtdecjlkfpbgkgaaGreatDoor.X
