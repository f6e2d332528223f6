/- media.Text's Quoted and Value, walked by hand. -/
import Derived.Test.YtdecjlkfpbgkgaaGreatDoorXTok
import Derived.RangeFuncBox
import Derived.Lib.FrozenHead
import Derived.BigQuiet
import Derived.Deep.QuietTactic
namespace Go.Proofs.YtdecjlkfpbgkgaaGreatDoor.X
open Go.RowKit Go.Shelf Go.Proofs.YtdecjlkfpbgkgaaGreatDoorW.PrintWords Go.Proofs.YtdecjlkfpbgkgaaGreatDoor.F
set_option linter.unusedVariables false
set_option linter.unusedSimpArgs false
theorem builderAtF_below {T e : TypeId} {B b : Nat} {p : Value} {bs : List Value} {w w' : World} (h : Lib.BuilderAtF T e B b p bs w) (hb : Below w.heap.size w w') : Lib.BuilderAtF T e B b p bs w' := by
  obtain ⟨hB, v, hk, hown, hne⟩ := h
  exact ⟨hB, v, (hb.block b (Array.getElem?_eq_some_iff.1 hk).1).trans hk, hown.kept (grown_of_below hb none) (by cases v.ownBlock <;> simp), hne⟩
/-- A builder that holds a text. -/
def Bl (B b : Nat) (l : List UInt8) (w : World) : Prop := Lib.IsBuilderF 56 5 B b (Lib.byteCells l) w
theorem Bl.below {B b : Nat} {l : List UInt8} {w w' : World} (h : Bl B b l w) (hb : Below w.heap.size w w') : Bl B b l w' :=
  h.elim (fun x => .inl (builderAtF_below x hb)) (fun x => .inr (builderAtF_below x hb))
theorem builderAtF_box {T e : TypeId} {B n b : Nat} {p : Value} {bs : List Value} {w : World} (h : Lib.BuilderAtF T e B n p bs w) (hb : b < B) (u : Value) : Lib.BuilderAtF T e B n p bs (w.setCell ⟨b, 0, none⟩ u) := by
  obtain ⟨hB, v, hk, ⟨hl, hr⟩, hne⟩ := h
  refine ⟨hB, v, (Below.heap_setCell _ _ _ _ (show n ≠ b by omega)).trans hk, ⟨hl, ?_⟩, hne⟩
  rcases hr with hr | ⟨g, cap, cur, fz, e1, e2, e3, e4⟩
  · exact .inl hr
  · exact .inr ⟨g, cap, cur, fz, e1, e2, (Below.heap_setCell _ _ _ _ (show g ≠ b by omega)).trans e3, e4⟩
theorem Bl.box {B n b : Nat} {l : List UInt8} {w : World} (h : Bl B n l w) (hb : b < B) (u : Value) : Bl B n l (w.setCell ⟨b, 0, none⟩ u) :=
  h.elim (fun x => .inl (builderAtF_box x hb u)) (fun x => .inr (builderAtF_box x hb u))
theorem Bl.new (w : World) : Bl w.heap.size w.heap.size [] (w.alloc (.cells #[.pointer none, .slice none 0 0] 56)) := Lib.IsBuilderF.of (Lib.fresh_isBuilder 56 5 w)
theorem byte_calls (B b : Nat) (l : List UInt8) (c : UInt8) (w : World) (h : Bl B b l w) (hlen : l.length + 1 ≤ 140737488355328) (hBw : B ≤ w.heap.size) :
    Calls Tryz.prog 60 #[.pointer (some ⟨b, 0, none⟩), .int .u8 (c.toNat : Int)] w fun e w' => e = .returned .nilIface ∧ Bl B b (l ++ [c]) w' ∧ Below B w w' := by
  refine (Tryz.Builder_WriteByte_k B b (Lib.byteCells l) (c.toNat : Int) w h (by rw [Lib.byteCells_length]; exact hlen) hBw).mono ?_
  rintro e w' ⟨rfl, h1, h2, _⟩
  refine ⟨rfl, .inr ?_, h2⟩
  have e1 : Lib.byteCells (l ++ [c]) = Lib.byteCells l ++ [.int .u8 (c.toNat : Int)] := by simp [Lib.byteCells]
  rw [e1]
  exact h1
theorem write_calls (B b : Nat) (l : List UInt8) (s : ByteArray) (w : World) (h : Bl B b l w) (hlen : l.length + s.size ≤ 140737488355328) (hBw : B ≤ w.heap.size) :
    Calls Tryz.prog 31 #[.pointer (some ⟨b, 0, none⟩), .string s] w fun e w' => e = .returned (.tuple #[.int .i64 s.size, .nilIface]) ∧ Bl B b (l ++ L s) w' ∧ Below B w w' := by
  refine (Tryz.Builder_WriteString_k B b (Lib.byteCells l) s w h (by rw [Lib.byteCells_length]; exact hlen) hBw).mono ?_
  rintro e w' ⟨rfl, h1, h2, _⟩
  refine ⟨rfl, .inr ?_, h2⟩
  have e1 : Lib.byteCells (l ++ L s) = Lib.byteCells l ++ Lib.strCells s := by simp [Lib.byteCells, Lib.strCells, L]
  rw [e1]
  exact h1
theorem string_calls (B b : Nat) (l : List UInt8) (w : World) (h : Bl B b l w) (hBw : B ≤ w.heap.size) :
    Calls Tryz.prog 33 #[.pointer (some ⟨b, 0, none⟩)] w fun e w' => e = .returned (.string (M l)) ∧ Below B w w' := by
  refine (Tryz.Builder_String_any_k B b l w h hBw).mono ?_
  rintro e w' ⟨rfl, _, h2, _⟩
  exact ⟨rfl, h2⟩
theorem start_set {w wr : World} {b : Nat} {t : TypeId} {u : Value} (hb : Boxed w b t u) (H : Below w.heap.size w wr) : Below w.heap.size (w.setCell ⟨b, 0, none⟩ u) wr := by
  refine ⟨H.os, H.tape, H.output, by rw [Deep.nblk_setCell]; exact H.size, fun k hk => ?_⟩
  rw [H.block k hk]
  by_cases e : k = b
  · subst e; exact hb.trans (hb.set u).symm
  · rw [Below.heap_setCell _ _ _ _ (by exact e)]
/-- Behind a quote: what is quoted, and what stands behind it. -/
def quotedL : Bs → Bs → Option (Bs × Bs)
  | _, [] => none
  | acc, [c] => if c = 34 then some (acc, []) else none
  | acc, c :: d :: u => if c = 34 then some (acc, d :: u) else if c = 92 then (if okV d = true then quotedL (acc ++ [d]) u else none) else if okV c = true then quotedL (acc ++ [c]) (d :: u) else none
theorem q_nil (acc : Bs) : quotedL acc [] = none := by rw [quotedL]
theorem q_step (acc s : Bs) (i : Nat) (h : i < s.length) : quotedL acc (s.drop i) = if s[i] = 34 then some (acc, s.drop (i + 1)) else if s[i] = 92 then (if h2 : i + 1 < s.length then (if okV s[i + 1] = true then quotedL (acc ++ [s[i + 1]]) (s.drop (i + 2)) else none) else none) else if okV s[i] = true then quotedL (acc ++ [s[i]]) (s.drop (i + 1)) else none := by
  rw [List.drop_eq_getElem_cons h]
  by_cases h2 : i + 1 < s.length
  · rw [dif_pos h2, List.drop_eq_getElem_cons h2, quotedL]
  · rw [dif_neg h2, List.drop_eq_nil_of_le (show s.length ≤ i + 1 by omega), q_nil, ite_self, ite_self]
    simp only [quotedL]
/-- What Quoted answers, and what it leaves in the box. -/
def quoV (s : Bs) : Bs × Bool × Bs := match quotedL [] s with | none => ([], false, s) | some p => (p.1, true, p.2)
set_option maxHeartbeats 4000000 in
set_option maxRecDepth 100000 in
theorem quoted_calls (b : Nat) (s : ByteArray) (w : World) (hb : Boxed w b 43 (.string s)) (hs : s.size ≤ 100000000000000) :
    Calls Tryz.prog 50 #[.pointer (some ⟨b, 0, none⟩)] w fun e w' => e = .returned (.tuple #[.string (M (quoV (L s)).1), .bool (quoV (L s)).2.1]) ∧ Below w.heap.size (w.setCell ⟨b, 0, none⟩ (.string (M (quoV (L s)).2.2))) w' := by
  have HB := Lib.hid hb
  have hz : (L s).length = s.size := rfl
  have hlt : b < w.heap.size := hb.lt
  have hbn := Bl.new w
  have HBN := Lib.hid hbn
  have HB0 := Lib.hid ((Below.refl w.heap.size w).alloc (Nat.le_refl _) (.cells #[.pointer none, .slice none 0 0] 56))
  clear hbn hb
  have hu56 := Tryz.underlying56
  go_enter Tryz.func50, Tryz.ntmps50
  go_wp2
  go_loopg [5, 6] (s.size + 1) (fun kq v5 v6 wr => ∃ (i : Nat) (acc : Bs), v5 = .int .i64 i ∧ Aside0 (Bl w.heap.size w.heap.size acc wr) ∧ Aside0 (Below w.heap.size w wr) ∧ Aside0 (quotedL [] (L s) = quotedL acc ((L s).drop i)) ∧ Aside0 (s.size + 1 ≤ i + kq ∧ i ≤ s.size ∧ acc.length ≤ i))
  case atStart => exact ⟨0, [], rfl, ⟨HBN.out⟩, ⟨HB0.out⟩, ⟨rfl⟩, ⟨by omega, by omega, by simp⟩⟩
  case round =>
    obtain ⟨i, acc, rfl, HBl, HBe, HE, HK⟩ := hrel
    have hbx : Boxed wr b 43 (.string s) := (HBe.out.block b hlt).trans HB.out
    have hc := hbx.cell
    have hf := hbx.frozen
    have HBX := Aside0.mk hbx
    clear hbx
    cases gk with
    | zero => exact absurd HK.out (by omega)
    | succ k1 =>
      by_cases hi : i < s.size
      · have hl1 : decide ((i : Int) < (s.size : Int)) = true := decide_eq_true (by omega)
        have hl2 : decide (i < s.size) = true := decide_eq_true (by omega)
        have hst := q_step acc (L s) i hi
        have hval : ∀ d : UInt8, ((s[i]'hi).toNat : Int) = (d.toNat : Int) ↔ (L s)[i]'hi = d := fun d => ⟨fun h => UInt8.toNat_inj.1 (by have : (s[i]'hi) = (L s)[i]'hi := rfl; rw [this] at h; omega), fun h => by rw [← h]; rfl⟩
        by_cases c34 : (L s)[i]'hi = 34
        · have f34 : (((s[i]'hi).toNat : Int) == 34) = true := by rw [beq_iff_eq]; exact (hval 34).2 c34
          rw [if_pos c34] at hst
          have HS := Aside0.mk (show quoV (L s) = (acc, true, (L s).drop (i + 1)) from by unfold quoV; rw [HE.out, hst])
          clear hst hval c34 HE
          go_wp2_with fail
          have hx := HBl.out.box hlt (.string (s.extract (i + 1) s.size))
          refine (string_calls _ _ _ _ hx (by rw [Deep.nblk_setCell]; exact HBe.out.size)).mono ?_
          rintro e w9 ⟨rfl, h9⟩
          have hfin : Below w.heap.size (w.setCell ⟨b, 0, none⟩ (.string (M ((L s).drop (i + 1))))) w9 := by
            have := (below_set HBe.out HB.out (.string (s.extract (i + 1) s.size))).trans h9
            rwa [M_drop] at this
          have HF := Aside0.mk hfin
          clear hfin h9 hx
          go_wp2
          go_ret2
          rw [HS.out]
          exact ⟨rfl, HF.out⟩
        · have f34 : (((s[i]'hi).toNat : Int) == 34) = false := by rw [beq_eq_false_iff_ne]; exact fun h => c34 ((hval 34).1 h)
          rw [if_neg c34] at hst
          by_cases c92 : (L s)[i]'hi = 92
          · have f92 : (((s[i]'hi).toNat : Int) == 92) = true := by rw [beq_iff_eq]; exact (hval 92).2 c92
            rw [if_pos c92] at hst
            by_cases h2 : i + 1 < s.size
            · have hl3 : ((i : Int) + 1 == (s.size : Int)) = false := by rw [beq_eq_false_iff_ne]; omega
              have hl4 : decide ((i : Int) + 1 < (s.size : Int)) = true := decide_eq_true (by omega)
              have hl5 : decide (i + 1 < s.size) = true := decide_eq_true h2
              rw [dif_pos (show i + 1 < (L s).length from h2)] at hst
              have HEND := Aside0.mk (fun (h : ((decide (((s[i + 1]'h2).toNat : Int) < 32) && !(((s[i + 1]'h2).toNat : Int) == 9)) || ((s[i + 1]'h2).toNat : Int) == 127) = true) => (show quoV (L s) = ([], false, L s) from by
                have hk : okV ((L s)[i + 1]'h2) = false := by rw [okV_int]; exact congrArg Bool.not h
                unfold quoV
                rw [HE.out, hst, if_neg (by rw [hk]; decide)]))
              have HGO := Aside0.mk (fun (h : ((decide (((s[i + 1]'h2).toNat : Int) < 32) && !(((s[i + 1]'h2).toNat : Int) == 9)) || ((s[i + 1]'h2).toNat : Int) == 127) = false) => (show quotedL [] (L s) = quotedL (acc ++ [s[i + 1]'h2]) ((L s).drop (i + 2)) from by
                have hk : okV ((L s)[i + 1]'h2) = true := by rw [okV_int]; exact congrArg Bool.not h
                rw [HE.out, hst, if_pos hk]
                rfl))
              clear hst hval c34 c92 HE
              obtain ⟨q1, k1_⟩ : ∃ q, decide (((s[i + 1]'h2).toNat : Int) < 32) = q := ⟨_, rfl⟩
              obtain ⟨q2, k2_⟩ : ∃ q, (((s[i + 1]'h2).toNat : Int) == 9) = q := ⟨_, rfl⟩
              obtain ⟨q3, k3_⟩ : ∃ q, (((s[i + 1]'h2).toNat : Int) == 127) = q := ⟨_, rfl⟩
              have k2b : (((s[i + 1]'h2).toNat : Int) != 9) = !q2 := by unfold bne; rw [k2_]
              rw [k1_, k2_, k3_] at HEND HGO
              go_wp2_with fail
              all_goals first
                | (go_ret2; rw [HEND.out (by simp [*])]; exact ⟨rfl, start_set HB.out HBe.out⟩)
                | (refine (byte_calls _ _ acc (s[i + 1]'h2) wr HBl.out (by have := HK.out; omega) HBe.out.size).mono ?_
                   rintro e w9 ⟨rfl, h8, h9⟩
                   have HBl9 := Aside0.mk h8
                   have HBe9 := Aside0.mk (HBe.out.trans h9)
                   clear h8 h9
                   go_wp2
                   go_roundg k1
                   (case measure => omega)
                   (case rel => exact ⟨i + 2, acc ++ [s[i + 1]'h2], congrArg (Value.int IntKind.i64) (by omega), HBl9, HBe9, ⟨HGO.out (by simp [*])⟩, ⟨by have := HK.out; omega, by omega, by have := HK.out; rw [List.length_append, List.length_singleton]; omega⟩⟩))
            · have hl3 : ((i : Int) + 1 == (s.size : Int)) = true := by rw [beq_iff_eq]; omega
              rw [dif_neg (show ¬ i + 1 < (L s).length from h2)] at hst
              have HS := Aside0.mk (show quoV (L s) = ([], false, L s) from by unfold quoV; rw [HE.out, hst])
              have hM : M (L s) = s := rfl
              clear hst hval c34 c92 HE
              go_wp2
              go_ret2
              rw [HS.out]
              exact ⟨rfl, start_set HB.out HBe.out⟩
          · have f92 : (((s[i]'hi).toNat : Int) == 92) = false := by rw [beq_eq_false_iff_ne]; exact fun h => c92 ((hval 92).1 h)
            rw [if_neg c92] at hst
            have HEND := Aside0.mk (fun (h : ((decide (((s[i]'hi).toNat : Int) < 32) && !(((s[i]'hi).toNat : Int) == 9)) || ((s[i]'hi).toNat : Int) == 127) = true) => (show quoV (L s) = ([], false, L s) from by
              have hk : okV ((L s)[i]'hi) = false := by rw [okV_int]; exact congrArg Bool.not h
              unfold quoV
              rw [HE.out, hst, if_neg (by rw [hk]; decide)]))
            have HGO := Aside0.mk (fun (h : ((decide (((s[i]'hi).toNat : Int) < 32) && !(((s[i]'hi).toNat : Int) == 9)) || ((s[i]'hi).toNat : Int) == 127) = false) => (show quotedL [] (L s) = quotedL (acc ++ [s[i]'hi]) ((L s).drop (i + 1)) from by
              have hk : okV ((L s)[i]'hi) = true := by rw [okV_int]; exact congrArg Bool.not h
              rw [HE.out, hst, if_pos hk]
              rfl))
            clear hst hval c34 c92 HE
            obtain ⟨q1, k1_⟩ : ∃ q, decide (((s[i]'hi).toNat : Int) < 32) = q := ⟨_, rfl⟩
            obtain ⟨q2, k2_⟩ : ∃ q, (((s[i]'hi).toNat : Int) == 9) = q := ⟨_, rfl⟩
            obtain ⟨q3, k3_⟩ : ∃ q, (((s[i]'hi).toNat : Int) == 127) = q := ⟨_, rfl⟩
            have k2b : (((s[i]'hi).toNat : Int) != 9) = !q2 := by unfold bne; rw [k2_]
            rw [k1_, k2_, k3_] at HEND HGO
            go_wp2_with fail
            all_goals first
              | (go_ret2; rw [HEND.out (by simp [*])]; exact ⟨rfl, start_set HB.out HBe.out⟩)
              | (refine (byte_calls _ _ acc (s[i]'hi) wr HBl.out (by have := HK.out; omega) HBe.out.size).mono ?_
                 rintro e w9 ⟨rfl, h8, h9⟩
                 have HBl9 := Aside0.mk h8
                 have HBe9 := Aside0.mk (HBe.out.trans h9)
                 clear h8 h9
                 go_wp2
                 go_roundg k1
                 (case measure => omega)
                 (case rel => exact ⟨i + 1, acc ++ [s[i]'hi], congrArg (Value.int IntKind.i64) (by omega), HBl9, HBe9, ⟨HGO.out (by simp [*])⟩, ⟨by have := HK.out; omega, by omega, by have := HK.out; rw [List.length_append, List.length_singleton]; omega⟩⟩))
      · have hl1 : decide ((i : Int) < (s.size : Int)) = false := decide_eq_false (by omega)
        have hl2 : decide (i < s.size) = false := decide_eq_false (by omega)
        have HS := Aside0.mk (show quoV (L s) = ([], false, L s) from by unfold quoV; rw [HE.out, List.drop_eq_nil_of_le (show (L s).length ≤ i by omega), q_nil])
        clear HE
        go_wp2
        go_ret2
        rw [HS.out]
        exact ⟨rfl, start_set HB.out HBe.out⟩
end Go.Proofs.YtdecjlkfpbgkgaaGreatDoor.X
