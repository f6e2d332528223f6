/- Plain law of media types: what is parsed is told, and parsed as it was. -/
import Derived.Test.YtdecjlkfpbgkgaaGreatDoorF2
namespace Go.Proofs.YtdecjlkfpbgkgaaGreatDoor.F
open Go.RowKit Go.Lib Go.Proofs.YtdecjlkfpbgkgaaGreatDoorW.PrintWords Go.Proofs.YtdecjlkfpbgkgaaGreatDoor.X Go.Proofs.YtdecjlkfpbgkgaaGreatDoor.Pm Go.Proofs.YtdecjlkfpbgkgaaGreatDoor.U
set_option linter.unusedSimpArgs false
theorem byte_all (p : UInt8 → Bool) (h : ∀ n : Nat, n < 256 → p (UInt8.ofNat n) = true) (c : UInt8) : p c = true := by
  have := h c.toNat c.toNat_lt
  rwa [UInt8.ofNat_toNat] at this
theorem tok_ok (c : UInt8) (h : tokB c = true) : okV c = true := by
  have := byte_all (fun c => !tokB c || okV c) (by decide +kernel) c
  rw [h] at this
  exact this
theorem tok_not (c : UInt8) (h : tokB c = true) : c ≠ 34 ∧ blank c = false := by
  have := byte_all (fun c => !tokB c || (c != 34 && !blank c)) (by decide +kernel) c
  rw [h] at this
  simp only [Bool.not_true, Bool.false_or, Bool.and_eq_true, bne_iff_ne, Bool.not_eq_true'] at this
  exact this
theorem low_tok (c : UInt8) : tokB (lowC c) = tokB c := by
  have := byte_all (fun c => tokB (lowC c) == tokB c) (by decide +kernel) c
  exact beq_iff_eq.1 this
theorem low_low (c : UInt8) : lowC (lowC c) = lowC c := by
  have := byte_all (fun c => lowC (lowC c) == lowC c) (by decide +kernel) c
  exact beq_iff_eq.1 this
theorem low_star (c : UInt8) : lowC c = 42 ↔ c = 42 := by
  have := byte_all (fun c => (lowC c == 42) == (c == 42)) (by decide +kernel) c
  have h := beq_iff_eq.1 this
  constructor
  · intro e; rw [beq_iff_eq.2 e] at h; exact beq_iff_eq.1 h.symm
  · intro e; rw [beq_iff_eq.2 e] at h; exact beq_iff_eq.1 h
theorem small_small (l : Bs) : small (small l) = small l := by
  unfold small
  rw [List.map_map]
  exact List.map_congr_left fun c _ => low_low c
theorem small_star (l : Bs) : small l = [42] ↔ l = [42] := by
  unfold small
  constructor
  · intro h
    cases l with
    | nil => cases h
    | cons c t =>
      rw [List.map_cons] at h
      obtain ⟨h1, h2⟩ := List.cons.inj h
      have : t = [] := List.map_eq_nil_iff.1 h2
      rw [(low_star c).1 h1, this]
  · rintro rfl; rfl
/-- A token that is small: not empty. -/
def TokS (l : Bs) : Prop := l ≠ [] ∧ (∀ c ∈ l, tokB c = true) ∧ small l = l
theorem tw_all (l : Bs) : ∀ c ∈ l.takeWhile tokB, tokB c = true := fun c h => List.all_eq_true.1 (List.all_takeWhile (p := tokB) (l := l)) c h
theorem tokS_of (l : Bs) (h : l.takeWhile tokB ≠ []) : TokS (small (l.takeWhile tokB)) := by
  refine ⟨?_, ?_, small_small _⟩
  · intro e
    have := congrArg List.length e
    unfold small at this
    rw [List.length_map] at this
    exact h (List.length_eq_zero_iff.1 this)
  · intro c hc
    unfold small at hc
    obtain ⟨d, hd, rfl⟩ := List.mem_map.1 hc
    rw [low_tok]
    exact tw_all l d hd
/-- A parameter that may be told and read. -/
def GoodP (x : S38) : Prop := TokS (L x.f0) ∧ (L x.f1).all okV = true
theorem q_cons (acc : Bs) (c : UInt8) (u : Bs) : quotedL acc (c :: u) = if c = 34 then some (acc, u) else if c = 92 then (match u with | [] => none | d :: v => if okV d = true then quotedL (acc ++ [d]) v else none) else if okV c = true then quotedL (acc ++ [c]) u else none := by
  cases u with
  | nil =>
    have e : quotedL acc [c] = if c = 34 then some (acc, []) else none := by rw [quotedL]
    rw [e, q_nil]
    split <;> simp
  | cons d v => rw [quotedL]
theorem quoted_ok : ∀ (n : Nat) (acc s : Bs) {v r : Bs}, s.length ≤ n → acc.all okV = true → quotedL acc s = some (v, r) → v.all okV = true
  | 0, acc, s, v, r, hn, _, h => by
    have : s = [] := List.length_eq_zero_iff.1 (by omega)
    subst this
    rw [q_nil] at h
    cases h
  | n + 1, acc, s, v, r, hn, ha, h => by
    cases s with
    | nil => rw [q_nil] at h; cases h
    | cons c u =>
      rw [q_cons] at h
      rw [List.length_cons] at hn
      split at h
      · cases h; exact ha
      · split at h
        · cases u with
          | nil => cases h
          | cons d w =>
            simp only at h
            rw [List.length_cons] at hn
            split at h
            · rename_i hd
              exact quoted_ok n _ w (by omega) (by rw [List.all_append, ha]; simpa using hd) h
            · cases h
        · split at h
          · rename_i hd
            exact quoted_ok n _ u (by omega) (by rw [List.all_append, ha]; simpa using hd) h
          · cases h
theorem value_ok (s : Bs) (h : (valueV s).2.1 = true) : (valueV s).1.all okV = true := by
  unfold valueV at h ⊢
  split
  · rename_i hp
    rw [if_pos hp] at h
    unfold quoV at h ⊢
    cases hq : quotedL [] (Lib.trimPrefix s [34]) with
    | none => rw [hq] at h; cases h
    | some p => exact quoted_ok _ [] _ (Nat.le_refl _) rfl hq
  · exact List.all_eq_true.2 fun c hc => tok_ok c (tw_all s c hc)
theorem paramsN_good : ∀ (n : Nat) (s : Bs) (acc r : List S38), (∀ x ∈ acc, GoodP x) → paramsN n s acc = some r → ∀ x ∈ r, GoodP x := by
  intro n
  induction n with
  | zero => intro s acc r _ h; cases h
  | succ n ih =>
    intro s acc r ha h
    rw [paramsN] at h
    split at h
    · cases h; exact ha
    · split at h
      · cases h
      · split at h
        · cases h
        · rename_i ht
          split at h
          · cases h
          · split at h
            · cases h
            · rename_i hv
              refine ih _ _ r ?_ h
              intro x hx
              rcases List.mem_append.1 hx with hx | hx
              · exact ha x hx
              · rw [List.mem_singleton.1 hx]
                exact ⟨tokS_of _ ht, value_ok _ (by simpa using hv)⟩
theorem paramsN_tot : ∀ (n : Nat) (s : Bs) (acc r : List S38), paramsN n s acc = some r → tot r ≤ tot acc + 2 * s.length := by
  intro n
  induction n with
  | zero => intro s acc r h; cases h
  | succ n ih =>
    intro s acc r h
    rw [paramsN] at h
    split at h
    · cases h; omega
    · split at h
      · cases h
      · rename_i hp
        split at h
        · cases h
        · split at h
          · cases h
          · rename_i hp2
            split at h
            · cases h
            · have h1 := ih _ _ r h
              have e1 := hp_tp s 59 (by simpa using hp)
              generalize Lib.trimPrefix s [59] = s1 at *
              have e2 := skip_le s1
              generalize skipL s1 = s2 at *
              have e3 : (s2.takeWhile tokB).length + (s2.dropWhile tokB).length = s2.length := by rw [← List.length_append, List.takeWhile_append_dropWhile]
              generalize s2.dropWhile tokB = s3 at *
              have e4 := hp_tp s3 61 (by simpa using hp2)
              generalize Lib.trimPrefix s3 [61] = s4 at *
              have e5 := valueV_sum s4
              have e6 := skip_le (valueV s4).2.2
              rw [tot_append] at h1
              have e7 : tot [(⟨M (small (s2.takeWhile tokB)), M (valueV s4).1⟩ : S38)] = (s2.takeWhile tokB).length + (valueV s4).1.length + 3 := by
                show (small (s2.takeWhile tokB)).length + (valueV s4).1.length + 3 + 0 = _
                unfold small
                rw [List.length_map]
              rw [e7] at h1
              omega
where
  valueV_sum (s : Bs) : (valueV s).1.length + (valueV s).2.2.length ≤ s.length := by
    unfold valueV
    split
    · unfold quoV
      have h2 := tp_le s [34]
      cases hq : quotedL [] (Lib.trimPrefix s [34]) with
      | none => simpa using h2
      | some p =>
        have := quoted_len _ [] _ (v := p.1) (r := p.2) (Nat.le_refl _) hq
        simp only [List.length_nil] at this ⊢
        omega
    · show (s.takeWhile tokB).length + (s.dropWhile tokB).length ≤ _
      rw [← List.length_append, List.takeWhile_append_dropWhile]
      exact Nat.le_refl _
/-- What Parse answers, if it is no error. -/
def GoodM (r : MR) : Prop := TokS (L r.1) ∧ TokS (L r.2.1) ∧ (L r.1 = [42] → L r.2.1 = [42]) ∧ ∀ x ∈ r.2.2.1, GoodP x
theorem parse_good (s : Bs) : (parseV s = (⟨#[]⟩, ⟨#[]⟩, [], 130)) ∨ ((parseV s).2.2.2 = 0 ∧ GoodM (parseV s) ∧ tot (parseV s).2.2.1 + (parseV s).1.size + (parseV s).2.1.size ≤ 2 * s.length) := by
  unfold parseV
  split
  · exact .inl rfl
  · rename_i h
    refine .inr ⟨rfl, ?_⟩
    simp only [Bool.or_eq_true, not_or, Bool.not_eq_true', Bool.not_eq_true, Bool.and_eq_true, not_and, Bool.not_eq_false] at h
    obtain ⟨⟨⟨⟨h1, h2⟩, h3⟩, h4⟩, h5⟩ := h
    have k1 := skip_le s
    generalize skipL s = s1 at *
    have e3 : (s1.takeWhile tokB).length + (s1.dropWhile tokB).length = s1.length := by rw [← List.length_append, List.takeWhile_append_dropWhile]
    have t1 := tokS_of s1 (by intro e; rw [e] at h1; cases h1)
    generalize s1.dropWhile tokB = s2 at *
    have e4 := hp_tp s2 47 h2
    generalize Lib.trimPrefix s2 [47] = s3 at *
    have e5 : (s3.takeWhile tokB).length + (s3.dropWhile tokB).length = s3.length := by rw [← List.length_append, List.takeWhile_append_dropWhile]
    have t2 := tokS_of s3 (by intro e; rw [e] at h3; cases h3)
    generalize s3.dropWhile tokB = s4 at *
    cases hp : paramsL s4 with
    | none => rw [hp] at h4; cases h4
    | some r =>
      have g := paramsN_good _ _ [] r (fun x hx => by cases hx) hp
      have q := paramsN_tot _ _ [] r hp
      have q2 := skip_le s4
      refine ⟨⟨t1, t2, fun hs => ?_, g⟩, ?_⟩
      · have e1 : s1.takeWhile tokB = [42] := (small_star _).1 hs
        exact (small_star _).2 (beq_iff_eq.1 (h5 (beq_iff_eq.2 e1)))
      · show tot r + (small (s1.takeWhile tokB)).length + (small (s3.takeWhile tokB)).length ≤ _
        unfold small
        rw [List.length_map, List.length_map]
        have : tot ([] : List S38) = 0 := rfl
        omega
/-! ### back -/
/-- No byte of a token at the head. -/
def EndT (b : Bs) : Prop := b = [] ∨ ∃ c t, b = c :: t ∧ tokB c = false
theorem tok_tw (a b : Bs) (ha : ∀ c ∈ a, tokB c = true) (hb : EndT b) : (a ++ b).takeWhile tokB = a ∧ (a ++ b).dropWhile tokB = b := by
  rw [List.takeWhile_append_of_pos ha, List.dropWhile_append_of_pos ha]
  rcases hb with rfl | ⟨c, t, rfl, h⟩
  · simp
  · rw [List.takeWhile_cons, List.dropWhile_cons, h]
    simp
theorem skip_tok (a b : Bs) (ha : ∀ c ∈ a, tokB c = true) (hn : a ≠ []) : skipL (a ++ b) = a ++ b := by
  cases a with
  | nil => exact absurd rfl hn
  | cons c t =>
    show List.dropWhile _ (c :: (t ++ b)) = _
    have := (tok_not c (ha c (List.mem_cons_self ..))).2
    have h2 : ([32, 9] : Bs).contains c = false := this
    rw [List.dropWhile_cons, if_neg (by rw [h2]; decide)]
    rfl
theorem endT_cons (c : UInt8) (t : Bs) (h : tokB c = false) : EndT (c :: t) := .inr ⟨c, t, rfl, h⟩
theorem endT_parts (l : List S38) : EndT (partsG l) := by
  cases l with
  | nil => exact .inl rfl
  | cons x r => exact .inr ⟨59, _, rfl, by decide⟩
theorem quoted_esc (rest : Bs) : ∀ (v acc : Bs), v.all okV = true → quotedL acc (escL v ++ 34 :: rest) = some (acc ++ v, rest)
  | [], acc, _ => by
    show quotedL acc (34 :: rest) = _
    rw [q_cons, if_pos rfl, List.append_nil]
  | c :: t, acc, h => by
    rw [List.all_cons, Bool.and_eq_true] at h
    have ih := quoted_esc rest t (acc ++ [c]) h.2
    show quotedL acc ((escB c ++ escL t) ++ 34 :: rest) = _
    rw [List.append_assoc]
    unfold escB
    split
    · show quotedL acc (92 :: c :: (escL t ++ 34 :: rest)) = _
      rw [q_cons, if_neg (by decide), if_pos rfl]
      show (if okV c = true then quotedL (acc ++ [c]) (escL t ++ 34 :: rest) else none) = _
      rw [if_pos h.1, ih, List.append_assoc]
      rfl
    · rename_i hq
      have h34 : c ≠ 34 := fun e => hq (by rw [e]; rfl)
      have h92 : c ≠ 92 := fun e => hq (by rw [e]; rfl)
      show quotedL acc (c :: (escL t ++ 34 :: rest)) = _
      rw [q_cons, if_neg h34, if_neg h92, if_pos h.1, ih, List.append_assoc]
      rfl
theorem fieldTok_all (v : Bs) (h : fieldTok v = true) : v ≠ [] ∧ ∀ c ∈ v, tokB c = true := by
  obtain ⟨h1, h2, h3⟩ := tok_parts v h
  exact ⟨h3, fun c hc => tw_all v c (by rw [h1]; exact hc)⟩
theorem value_back (v rest : Bs) (hv : v.all okV = true) (hr : EndT rest) : valueV (quoteL v ++ rest) = (v, true, rest) := by
  unfold quoteL
  split
  · rename_i ht
    obtain ⟨hn, ha⟩ := fieldTok_all v ht
    obtain ⟨e1, e2⟩ := tok_tw v rest ha hr
    unfold valueV
    rw [e1, e2]
    cases v with
    | nil => exact absurd rfl hn
    | cons c t =>
      have h34 := (tok_not c (ha c (List.mem_cons_self ..))).1
      rw [if_neg (by rw [List.cons_append, hp_cons, beq_eq_false_iff_ne.2 h34]; decide)]
      rfl
  · unfold valueV
    have e : 34 :: (escL v ++ [34]) ++ rest = 34 :: (escL v ++ 34 :: rest) := by simp
    rw [e, hp_cons, beq_self_eq_true, if_pos rfl, tp_cons]
    unfold quoV
    rw [quoted_esc rest v [] hv]
    rfl
theorem params_back : ∀ (l : List S38) (n : Nat) (acc : List S38), l.length < n → (∀ x ∈ l, GoodP x) → paramsN n (skipL (partsG l)) acc = some (acc ++ l)
  | [], n + 1, acc, _, _ => by
    rw [show skipL (partsG []) = [] from rfl, paramsN, if_pos rfl, List.append_nil]
  | x :: r, n + 1, acc, hn, hg => by
    obtain ⟨⟨hn0, ha0, hs0⟩, hv⟩ := hg x (List.mem_cons_self ..)
    have hr := endT_parts r
    have e0 : partsG (x :: r) = 59 :: (32 :: (L x.f0 ++ (61 :: (quoteL (L x.f1) ++ partsG r)))) := by
      show partG x ++ partsG r = _
      unfold partG
      simp
    have ih := params_back r n (acc ++ [x]) (by rw [List.length_cons] at hn; omega) (fun y hy => hg y (List.mem_cons_of_mem _ hy))
    rw [e0, show skipL (59 :: (32 :: (L x.f0 ++ (61 :: (quoteL (L x.f1) ++ partsG r))))) = 59 :: (32 :: (L x.f0 ++ (61 :: (quoteL (L x.f1) ++ partsG r)))) from by show List.dropWhile _ _ = _; rw [List.dropWhile_cons]; rfl]
    rw [paramsN, if_neg (List.cons_ne_nil _ _), hp_cons, tp_cons]
    have e1 : skipL (32 :: (L x.f0 ++ (61 :: (quoteL (L x.f1) ++ partsG r)))) = L x.f0 ++ (61 :: (quoteL (L x.f1) ++ partsG r)) := by
      have := skip_tok (L x.f0) (61 :: (quoteL (L x.f1) ++ partsG r)) ha0 hn0
      show List.dropWhile _ _ = _
      rw [List.dropWhile_cons]
      exact this
    obtain ⟨e2, e3⟩ := tok_tw (L x.f0) (61 :: (quoteL (L x.f1) ++ partsG r)) ha0 (endT_cons 61 _ (by decide))
    rw [e1, e2, e3, hp_cons, tp_cons, value_back (L x.f1) (partsG r) hv hr, hs0]
    rw [if_neg (by decide), if_neg hn0, if_neg (by decide), if_neg (show ¬ (true = false) by decide)]
    rw [show (⟨M (L x.f0), M (L x.f1)⟩ : S38) = x from rfl, ih, List.append_assoc]
    rfl
theorem parse_back (t u : ByteArray) (l : List S38) (h : GoodM (t, u, l, 0)) : parseV (headT t u ++ partsG l) = (t, u, l, 0) := by
  obtain ⟨⟨tn, ta, ts⟩, ⟨un, ua, us⟩, hstar, hg⟩ := h
  simp only at tn ta ts un ua us hstar hg
  have e0 : headT t u ++ partsG l = L t ++ (47 :: (L u ++ partsG l)) := by unfold headT; simp
  have e1 := skip_tok (L t) (47 :: (L u ++ partsG l)) ta tn
  obtain ⟨e2, e3⟩ := tok_tw (L t) (47 :: (L u ++ partsG l)) ta (endT_cons 47 _ (by decide))
  obtain ⟨e4, e5⟩ := tok_tw (L u) (partsG l) ua (endT_parts l)
  have e6 : paramsL (partsG l) = some l := by
    unfold paramsL
    have hlen : l.length ≤ (partsG l).length := by
      clear hg e0 e1 e2 e3 e4 e5
      induction l with
      | nil => simp
      | cons x r ih =>
        show r.length + 1 ≤ (partG x ++ partsG r).length
        rw [List.length_append]
        have : 1 ≤ (partG x).length := by unfold partG; simp only [List.length_append, List.length_cons, List.length_nil]; omega
        omega
    exact params_back l _ [] (by omega) hg
  unfold parseV
  rw [e0, e1, e2, e3, hp_cons, tp_cons, e4, e5, e6, ts, us]
  rw [if_neg]
  · rfl
  · have t0 : (L t).isEmpty = false := List.isEmpty_eq_false_iff.2 tn
    have u0 : (L u).isEmpty = false := List.isEmpty_eq_false_iff.2 un
    rw [t0, u0]
    by_cases hs : L t = [42]
    · rw [hstar hs, hs]; simp
    · rw [beq_eq_false_iff_ne.2 hs]
      simp
end Go.Proofs.YtdecjlkfpbgkgaaGreatDoor.F
