/- etag.List, by hand: the tags of a list. -/
import Derived.Test.YtodhbldnmepmaaaDoorXHas
import Derived.Test.YtodhbldnmepmaaaDoorT0
namespace Go.Proofs.YtodhbldnmepmaaaDoor.X
open Go.RowKit Go.Shelf Go.Proofs.YtodhbldnmepmaaaDoorW.PrintWords Go.Proofs.YtodhbldnmepmaaaDoorW.PrintLast Go.Proofs.YtodhbldnmepmaaaDoorW.PrintMore Go.Proofs.YtodhbldnmepmaaaDoor.Pe

theorem trim_calls (s : ByteArray) (w : World) (hs : s.size ≤ 9223372036854775807) :
    Calls Tryd.prog 39 #[.string s, .string ⟨#[32, 9]⟩] w fun e w' => e = .returned (.string (M (Lib.trimS (L s) [32, 9]))) ∧ Below w.heap.size w w' :=
  Any.strings_Trim_laid Tryd.lays160 (by kernel_rfl) s ⟨#[32, 9]⟩ w hs (by decide) (ascii_of_all (by decide))

def listN : Nat → Nat → List UInt8 → List S24 → List S24 × Bool × Int
  | 0, _, _, acc => (acc, false, 0)
  | f + 1, n, l, acc =>
    if l = [] then (if acc = [] then ([], false, 170) else (acc, false, 0))
    else if (tagL l).ok = false ∨ n = 0 then ([], false, 170)
    else listN f (commasN ((tagL l).rest.length + 1) (skipL (tagL l).rest)).1 (commasN ((tagL l).rest.length + 1) (skipL (tagL l).rest)).2 (acc ++ [⟨(tagL l).weak, M (tagL l).value⟩])
def listV (l : List UInt8) : List S24 × Bool × Int :=
  if Lib.trimS l [32, 9] = [42] then ([], true, 0) else listN (l.length + 1) (1 + (commasN (l.length + 1) (skipL l)).1) (commasN (l.length + 1) (skipL l)).2 []
def etag_List.f (a0 : ByteArray) : Option (List S24 × Bool × Int) := if a0.size < 4294967281 then some (listV (L a0)) else none

theorem commas_le : ∀ (f : Nat) (l : List UInt8), (commasN f l).1 + (commasN f l).2.length ≤ l.length := by
  intro f
  induction f with
  | zero => intro l; simp [commasN]
  | succ f ih =>
    intro l
    unfold commasN
    split
    · rename_i h
      have h1 := comma_len l h
      have h2 := skipL_le (Lib.trimPrefix l [44])
      have h3 := ih (skipL (Lib.trimPrefix l [44]))
      simp only
      omega
    · simp
set_option maxHeartbeats 2000000 in
set_option maxRecDepth 100000 in
theorem list_calls (s : ByteArray) (w : World) (hG : Glob w) (hs : s.size < 4294967281) :
    Calls Tryd.prog 20 #[.string s] w fun e w' => ∃ v : Value, e = .returned (.tuple #[v, .bool (listV (L s)).2.1, .int .i64 (listV (L s)).2.2]) ∧ Kd.R k24 24 w' w.heap.size (fun _ => True) v (listV (L s)).1 ∧ Below w.heap.size w w' := by
  have HG := Lib.hid hG
  clear hG
  obtain ⟨q, hq⟩ : ∃ x, Lib.trimS (L s) [32, 9] = x := ⟨_, rfl⟩
  have HQ := Lib.hid hq
  clear hq
  by_cases h42 : q = [42]
  · subst h42
    have HV := Lib.hid (show listV (L s) = ([], true, 0) from by unfold listV; rw [if_pos HQ.out])
    go_enter Tryd.func20, Tryd.ntmps20
    go_wp2_with fail
    refine (trim_calls s w (by omega)).mono ?_
    rintro e w1 ⟨rfl, h1⟩
    rw [HQ.out]
    go_wp2
    go_ret3
    exact ⟨.slice none 0 0, by rw [HV.out]; rfl, by rw [HV.out]; exact Kd.R_nil _ _ _ _ _, h1⟩
  · have HV := Lib.hid (show listV (L s) = listN ((L s).length + 1) (1 + (commasN ((L s).length + 1) (skipL (L s))).1) (commasN ((L s).length + 1) (skipL (L s))).2 [] from by unfold listV; rw [if_neg (by rw [HQ.out]; exact h42)])
    have hne : (q == [42]) = false := beq_eq_false_iff_ne.2 h42
    clear h42
    go_enter Tryd.func20, Tryd.ntmps20
    go_wp2_with fail
    refine (trim_calls s w (by omega)).mono ?_
    rintro e w1 ⟨rfl, h1⟩
    rw [HQ.out]
    go_wp2_with fail
    have hlt1 := h1.size
    refine (commas_calls w1.heap.size s _ (Boxed.new w1 62 (.string s)) (by have : (L s).length = s.size := rfl; omega)).mono ?_
    rintro e w2 ⟨rfl, h2⟩
    have b2 := boxed_of (Boxed.new w1 62 (.string s)) h2
    have HB2 := Aside0.mk b2
    have hle := commas_le ((L s).length + 1) (skipL (L s))
    have hsk := skipL_le (L s)
    have hbel : Below w.heap.size w w2 := by
      have e1 : Below w.heap.size w ((w1.alloc (.cells #[.string s] 62)).setCell ⟨w1.heap.size, 0, none⟩ (.string (M (commasN ((L s).length + 1) (skipL (L s))).2))) := (h1.alloc h1.size _).setCell (p := ⟨w1.heap.size, 0, none⟩) h1.size _
      exact e1.trans (h2.mono (by simp; omega))
    have HBEL := Aside0.mk hbel
    clear h2 b2 hbel
    have HS := Aside0.mk (show wrap64 (1 + ((commasN ((L s).length + 1) (skipL (L s))).1 : Int)) = ((1 + (commasN ((L s).length + 1) (skipL (L s))).1 : Nat) : Int) by
      have : (L s).length = s.size := rfl
      unfold wrap64; omega)
    generalize hn0 : (commasN ((L s).length + 1) (skipL (L s))).1 = n0 at *
    generalize hl0 : (commasN ((L s).length + 1) (skipL (L s))).2 = l0 at *
    generalize hgb : w1.heap.size = gb at *
    go_wp2_with fail
    have HV2 := Lib.hid (show listV (L s) = listN ((L s).length + 1) (1 + n0) l0 [] from HV.out)
    go_loopg [2, 6] ((L s).length + 1) (fun kq v2 v6 wr => ∃ (acc : List S24) (n : Nat) (l : List UInt8), v6 = .int .i64 n ∧ Aside0 (listV (L s) = listN kq n l acc) ∧ Aside0 (Boxed wr gb 62 (.string (M l))) ∧ Aside0 (Kd.R k24 24 wr w.heap.size (fun k => k ≠ gb) v2 acc) ∧ Aside0 (Below w.heap.size w wr) ∧ Aside0 (l.length < kq ∧ n + l.length ≤ (L s).length + 1 ∧ acc.length + kq ≤ (L s).length + 1))
    case atStart => exact ⟨[], 1 + n0, l0, congrArg (Value.int IntKind.i64) HS.out, ⟨HV2.out⟩, HB2, ⟨Kd.R_nil _ _ _ _ _⟩, HBEL, ⟨by omega, by omega, by simp⟩⟩
    case round =>
      obtain ⟨acc, n, l, rfl, HE, HBX, HR, HB, HK⟩ := hrel
      have cb := HBX.out.cell
      have fb := HBX.out.frozen
      cases gk with
      | zero => exact absurd HK.out.1 (by omega)
      | succ k1 =>
        by_cases hl : l = []
        · subst hl
          obtain ⟨Ao, co, eo⟩ := Kd.R_slice HR.out
          subst eo
          by_cases ha : acc = []
          · have HE2 := Lib.hid (show listV (L s) = ([], false, 170) from by rw [HE.out, ha]; rfl)
            have hz : ((acc.length : Int) == 0) = true := by rw [ha]; rfl
            clear ha
            go_wp2
            go_ret3
            exact ⟨.slice none 0 0, by rw [HE2.out]; rfl, by rw [HE2.out]; exact Kd.R_nil _ _ _ _ _, HB.out⟩
          · have HE2 := Lib.hid (show listV (L s) = (acc, false, 0) from by rw [HE.out]; unfold listN; rw [if_pos rfl, if_neg ha])
            have hz : ((acc.length : Int) == 0) = false := by
              have : acc.length ≠ 0 := fun h => ha (List.eq_nil_of_length_eq_zero h)
              rw [beq_eq_false_iff_ne]; omega
            clear ha
            go_wp2
            go_ret3
            exact ⟨.slice Ao acc.length co, by rw [HE2.out]; rfl, by rw [HE2.out]; exact Kd.R_mono HR.out (fun _ _ => trivial), HB.out⟩
        · have hle2 : l.isEmpty = false := by simpa using hl
          go_wp2_with fail
          have hgb2 : gb ≠ 2 := by
            obtain ⟨m, hm⟩ := HG.out.max
            have h2 : 2 < w.heap.size := World.block_lt_of_cell? w _ hm
            omega
          refine (tag_calls gb (M l) wr (HG.out.below HB.out) hgb2 HBX.out (by have := HK.out; have h3 : (L s).length = s.size := rfl; show l.length < 4294967281; omega)).mono ?_
          rintro e w9 ⟨rfl, h9⟩
          have b9 := boxed_of HBX.out h9
          have hlt9 : w.heap.size ≤ wr.heap.size := HB.out.size
          have HR9 := Aside0.mk (Kd.R_below (Kd.R_grown HR.out (grownBy_setCell' wr gb (.string (M (tagL l).rest))) (fun k hk e => hk (by cases e; rfl))) (by rw [Deep.nblk_setCell]; exact h9))
          have HB9 := Aside0.mk (show Below w.heap.size w w9 from (HB.out.setCell (p := ⟨gb, 0, none⟩) (by show w.heap.size ≤ gb; omega) _).trans (h9.mono hlt9))
          have HBX9 := Aside0.mk b9
          have HRL := Aside0.mk (T.tag_rest l)
          clear h9 b9 cb fb hle2
          rw [show L (M l) = l from rfl]
          generalize hr : tagL l = r at *
          obtain ⟨weak, value, ok, rest⟩ := r
          have cb := HBX9.out.cell
          have fb := HBX9.out.frozen
          by_cases hbad : ok = false ∨ n = 0
          · have HE2 := Lib.hid (show listV (L s) = ([], false, 170) from by rw [HE.out]; unfold listN; rw [if_neg hl, hr, if_pos hbad])
            cases ok with
            | false =>
              go_wp2
              go_ret3
              exact ⟨.slice none 0 0, by rw [HE2.out]; rfl, by rw [HE2.out]; exact Kd.R_nil _ _ _ _ _, (HB9.out.alloc HB9.out.size _)⟩
            | true =>
              have hn : n = 0 := by simpa using hbad
              subst hn
              go_wp2
              go_ret3
              exact ⟨.slice none 0 0, by rw [HE2.out]; rfl, by rw [HE2.out]; exact Kd.R_nil _ _ _ _ _, (HB9.out.alloc HB9.out.size _)⟩
          · have hok : ok = true := by cases ok with | true => rfl | false => exact absurd (.inl rfl) hbad
            have hn : n ≠ 0 := fun h => hbad (.inr h)
            subst hok
            have hnz : ((n : Int) == 0) = false := by rw [beq_eq_false_iff_ne]; omega
            have hs9 := HB9.out.size
            have hsz10 : (w9.alloc (.cells #[.bool weak, .string (M value)] 24)).heap.size = w9.heap.size + 1 := World.size_alloc _ _
            go_wp2_with (first | ((with_reducible refine gate_builtin (b := .append) (xs := #[.tmp 27, .tmp 29]) rfl ?_); at_builtin; refine Kd.R_append k24 (w0 := w) (W := w9.alloc (.cells #[.bool weak, .string (M value)] 24)) w.heap.size rfl (.tmp 27) (.tmp 29) 22 24 (.agg #[.bool false, .string ⟨#[]⟩]) 24 rfl Tryd.underlying22 info24 rfl (by decide) (by omega) u2 acc (⟨weak, M value⟩ : S24) [.bool weak, .string (M value)] (fun k_ => k_ ≠ gb) (fun _ => False) rfl (by rw [hsz10]; rfl) ?aP (fun _ hk => hk.elim) ?aF ?aO ?aB ?aS ?aL ?_; (case aP => exact k24_mkM _ _ _ (⟨weak, M value⟩ : S24)); (case aB => exact HB9.out.alloc HB9.out.size _); (case aF => exact (fun k_ hk => by have := HBX9.out.lt; omega)); (case aO => exact (Kd.R_alloc HR9.out _)); (case aS => omega); (case aL => have := HK.out; have hz9 : (L s).length = s.size := rfl; omega); intro v129 w17 ho hb hg hat; have HO := Aside0.mk ho; have HBB := Aside0.mk hb; have HG17 := Aside0.mk hg; clear ho hb hg hat) | fail)
            have hB17 := HBB.out.size
            have b17 : Boxed w17 gb 62 (.string (M rest)) := (HG17.out.block gb (by rw [World.size_alloc]; have := HBX9.out.lt; omega) (fun e => HR9.out.1 gb e.symm rfl)).trans (HBX9.out.alloc _)
            have hrl : rest.length < l.length := HRL.out (by trivial)
            have hk := HK.out
            have hzL : (L s).length = s.size := rfl
            refine (commas_calls gb (M rest) w17 b17 (by show rest.length < _; omega)).mono ?_
            rintro e w18 ⟨rfl, h18⟩
            have b18 := Aside0.mk (boxed_of b17 h18)
            have HR18 := Aside0.mk (Kd.R_below (Kd.R_grown HO.out (grownBy_setCell' w17 gb (.string (M (commasN ((L (M rest)).length + 1) (skipL (L (M rest)))).2))) (fun k hk e => hk (by cases e; rfl))) (by rw [Deep.nblk_setCell]; exact h18))
            have HB18 := Aside0.mk (show Below w.heap.size w w18 from (HBB.out.setCell (p := ⟨gb, 0, none⟩) (by show w.heap.size ≤ gb; omega) _).trans (h18.mono hB17))
            have hcl := commas_le ((L (M rest)).length + 1) (skipL (L (M rest)))
            have hsl := skipL_le (L (M rest))
            have HST := Aside0.mk (show listV (L s) = listN k1 (commasN ((L (M rest)).length + 1) (skipL (L (M rest)))).1 (commasN ((L (M rest)).length + 1) (skipL (L (M rest)))).2 (acc ++ [⟨weak, M value⟩]) from by
              rw [HE.out]
              show listN (k1 + 1) n l acc = _
              rw [listN, if_neg hl, hr, if_neg hbad])
            clear h18 b17 hsz10 cb fb
            rw [show (L (M rest)).length = rest.length from rfl] at *
            generalize commasN (rest.length + 1) (skipL (L (M rest))) = cm at *
            go_wp2
            go_roundg k1
            case measure => omega
            case rel => exact ⟨acc ++ [⟨weak, M value⟩], cm.1, cm.2, rfl, HST, b18, HR18, HB18, ⟨by omega, by omega, by simp; omega⟩⟩
end Go.Proofs.YtodhbldnmepmaaaDoor.X
