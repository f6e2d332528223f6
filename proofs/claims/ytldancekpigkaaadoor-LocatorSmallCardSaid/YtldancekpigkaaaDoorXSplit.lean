/- The reference's Split, by hand: the parts of a text. -/
import Derived.Test.YtldancekpigkaaaDoorXParse
import Derived.Test.YtldancekpigkaaaDoorS10
namespace Go.Proofs.YtldancekpigkaaaDoor.X
open Go.RowKit Go.Shelf Go.Lib Go.Proofs.YtldancekpigkaaaDoorW.PrintWords Go.Proofs.YtldancekpigkaaaDoorW.PrintLast Go.Proofs.YtldancekpigkaaaDoorW.PrintMore Go.Proofs.YtldancekpigkaaaDoor.Pl Go.Proofs.YtldancekpigkaaaDoor.U Go.Proofs.YtldancekpigkaaaDoor.S
def uriA (u : UriB) : Array Value := uriC u.1 u.2.1 u.2.2.1 u.2.2.2.1 u.2.2.2.2.1 u.2.2.2.2.2.1 u.2.2.2.2.2.2.1 u.2.2.2.2.2.2.2.1 u.2.2.2.2.2.2.2.2

theorem first_calls (set s : Bs) (w : World) (hs : s.length < 4611686018427387904) (hset : set.length < 4611686018427387904) :
    Calls Tryd.prog 37 #[.string (B s), .string (B set)] w fun e w' => e = .returned (.int .i64 ((s.takeWhile (notIn set)).length : Int)) ∧ Below w.heap.size w w' := by
  obtain ⟨k, hk⟩ := Ev.rounds (rfirst_ev set s hs hset)
  exact (broadsheetref12_first.calls k (B s) (B set) _ w hk).mono fun e w' hh => ⟨hh.1, hh.2.below⟩
theorem head3 (s : Bs) : s.dropWhile (notIn [63, 35]) = [] ∨ ∃ t, s.dropWhile (notIn [63, 35]) = 63 :: t ∨ s.dropWhile (notIn [63, 35]) = 35 :: t := by
  cases h : s.dropWhile (notIn [63, 35]) with
  | nil => exact .inl rfl
  | cons c t =>
    have := dw_head h
    simp at this
    right
    refine ⟨t, ?_⟩
    rcases this with rfl | rfl
    · exact .inl rfl
    · exact .inr rfl
theorem head4 (s : Bs) : s.dropWhile (notIn [35]) = [] ∨ ∃ t, s.dropWhile (notIn [35]) = 35 :: t := by
  cases h : s.dropWhile (notIn [35]) with
  | nil => exact .inl rfl
  | cons c t =>
    have := dw_head h
    simp at this
    subst this
    exact .inr ⟨t, rfl⟩
theorem take2 (s : Bs) : (hasPrefix s [47, 47] = true → (s.take 2 == ([47, 47] : Bs)) = true) ∧ (¬ hasPrefix s [47, 47] = true → (s.take 2 == ([47, 47] : Bs)) = false) := by
  constructor
  · intro h
    unfold hasPrefix at h
    rw [List.isPrefixOf_iff_prefix] at h
    obtain ⟨t, rfl⟩ := h
    rfl
  · intro h
    rw [beq_eq_false_iff_ne]
    intro h2
    apply h
    unfold hasPrefix
    rw [List.isPrefixOf_iff_prefix]
    exact ⟨s.drop 2, by rw [← h2, List.take_append_drop]⟩
theorem short2 (s : Bs) (h : s.length ≤ 1) : hasPrefix s [47, 47] = false := by
  match s, h with
  | [], _ => rfl
  | [a], _ => simp [hasPrefix, List.isPrefixOf]
theorem split_is {l sch s1 host s2 path s3 query s4 : Bs} {p q r : Bool} (h0 : sp0 l = (sch, p, s1)) (h1 : sp1 s1 = (host, q, s2)) (h2 : s2.takeWhile (notIn [63, 35]) = path ∧ s2.dropWhile (notIn [63, 35]) = s3) (h3 : sp3 s3 = (query, r, s4)) :
    splitV l = (B sch, B host, B path, B query, B s4.tail, p, q, r, !s4.isEmpty) := by
  have e2 : rest2 l = s2 := by unfold rest2; rw [h0]; simp only [h1]
  have e3 : rest3 l = s3 := by unfold rest3; rw [e2]; exact h2.2
  have e4 : rest4 l = s4 := by unfold rest4; rw [e3, h3]
  unfold splitV uriOf
  rw [e4, e3, e2, h0, h3, h2.1]
  simp only [h1]
theorem sp0_no {l : Bs} (h : ¬ (l.dropWhile (notIn [58, 47, 63, 35])).head? = some 58) : sp0 l = ([], false, l) := by unfold sp0; rw [if_neg h]
set_option maxHeartbeats 20000000 in
set_option maxRecDepth 100000 in
theorem rsplit_calls (l : Bs) (w : World) (hl : l.length < 4000000000) : Calls Tryd.prog 20 #[.string (B l)] w fun e w' => e = .returned (.agg (uriA (splitV l))) ∧ Below w.heap.size w w' := by
  have hu24 := Tryd.underlying24
  obtain ⟨u, hu⟩ : ∃ x, splitV l = x := ⟨_, rfl⟩
  rw [hu]
  have HU := Lib.hid hu
  clear hu
  go_enter Tryd.func20, Tryd.ntmps20
  go_wp2_with fail
  refine (first_calls [58, 47, 63, 35] l _ (by omega) (by decide)).mono ?_
  rintro x w1 ⟨rfl, h1⟩
  have kz : w1.heap[w.heap.size]? = some (.cells zeroC 24 (0, 0)) := (h1.block _ (by rw [World.size_alloc, World.size_alloc]; omega)).trans ((((Below.refl _ (w.alloc _)).alloc (Nat.le_refl _) _).block _ (by rw [World.size_alloc]; omega)).trans (blk_new w _))
  have ku : w1.heap[w.heap.size + 1]? = some (.cells zeroC 24 (0, 0)) := (h1.block _ (by rw [World.size_alloc, World.size_alloc]; omega)).trans (by have := blk_new (w.alloc (.cells zeroC 24)) (.cells zeroC 24); rw [World.size_alloc] at this; exact this)
  have hb : Below w.heap.size w w1 := (((Below.refl _ w).alloc (Nat.le_refl _) _).alloc (by rw [World.size_alloc]; omega) _).trans (h1.mono (by rw [World.size_alloc, World.size_alloc]; omega))
  have KZ := Aside0.mk kz
  have KU := Aside0.mk ku
  have HB := Aside0.mk hb
  clear kz ku hb h1
  have hn := tw_sum [58, 47, 63, 35] l
  have htt := tw_take [58, 47, 63, 35] l
  have htd := tw_drop [58, 47, 63, 35] l
  have hsp := @sp0_no l
  obtain ⟨x, hx⟩ : ∃ x : Int, ((l.takeWhile (notIn [58, 47, 63, 35])).length : Int) = x := ⟨_, rfl⟩
  rw [hx]
  cases hd : l.dropWhile (notIn [58, 47, 63, 35]) with
  | nil =>
    rw [hd, List.length_nil, Nat.add_zero] at hn
    have HSP0 := Lib.hid (show sp0 l = ([], false, l) from hsp (by rw [hd]; simp))
    have q1 : decide (x < ((B l).size : Int)) = false := decide_eq_false (by rw [B_size]; omega)
    clear hsp hd htt htd hn
    by_cases h1 : 1 < l.length
    · have m0 : decide ((1 : Int) < ((B l).size : Int)) = true := decide_eq_true (by rw [B_size]; omega)
      have m1 : decide (1 < (B l).size) = true := decide_eq_true (by rw [B_size]; omega)
      have m2 := eq_true (show (2 : Int) ≤ ((B l).size : Int) by rw [B_size]; omega)
      have m3 := eq_true (show 2 ≤ (B l).size by rw [B_size]; omega)
      by_cases hp : hasPrefix l [47, 47] = true
      · have m4 : (((B l).extract 0 2).toList == ([47, 47] : List UInt8)) = true := by rw [extract_head, B_toList]; exact (take2 l).1 hp
        have m5 : (B l).extract 2 (B l).size = B (l.drop 2) := extract_tail l 2
        have hld : (l.drop 2).length ≤ l.length := by rw [List.length_drop]; omega
        obtain ⟨⟨z0, z1, z2, z3, z4, z5, z6, z7, z8⟩, ⟨f0, f1, f2, f3, f4, f5, f6, f7, f8⟩⟩ := cells9 KU.out
        go_wp2_with fail
        clear z0 z1 z2 z3 z4 z5 z6 z7 z8 f0 f1 f2 f3 f4 f5 f6 f7 f8
        clear m0 m1 m3 m4 m5
        refine (first_calls [47, 63, 35] (l.drop 2) _ (by omega) (by decide)).mono ?_
        rintro z w2 ⟨rfl, h⟩
        obtain ⟨ku, kz, hb⟩ := after9 KU.out KZ.out HB.out h
        clear h KU KZ HB
        have KZ := Aside0.mk kz
        have KU := Aside0.mk ku
        have HB := Aside0.mk hb
        clear kz ku hb
        have hn2 := tw_sum [47, 63, 35] (l.drop 2)
        have ht2 := tw_take [47, 63, 35] (l.drop 2)
        have hd2 := tw_drop [47, 63, 35] (l.drop 2)
        obtain ⟨x2, hx2⟩ : ∃ x : Int, (((l.drop 2).takeWhile (notIn [47, 63, 35])).length : Int) = x := ⟨_, rfl⟩
        rw [hx2]
        obtain ⟨host, hhost⟩ : ∃ q, (l.drop 2).takeWhile (notIn [47, 63, 35]) = q := ⟨_, rfl⟩
        obtain ⟨s2, hs2⟩ : ∃ q, (l.drop 2).dropWhile (notIn [47, 63, 35]) = q := ⟨_, rfl⟩
        have HSP1 := Lib.hid (show sp1 l = (host, true, s2) from by unfold sp1; rw [if_pos hp, hhost, hs2])
        rw [hhost, hs2] at hn2
        rw [hhost] at ht2 hd2 hx2
        rw [hs2] at hd2
        clear hhost hs2
        have hdl : (l.drop 2).length = l.length - 2 := List.length_drop
        obtain ⟨y2, hy2⟩ : ∃ y : Int, wrap64 (x2 + 2) = y := ⟨_, rfl⟩
        have hy2v : y2 = x2 + 2 := by rw [← hy2]; unfold wrap64; omega
        have hyn : y2.toNat = host.length + 2 := by omega
        have ec2 : (B l).extract 2 y2.toNat = B host := by rw [B_extract, hyn, List.drop_take, Nat.add_sub_cancel, ht2]
        have ed2 : (B l).extract y2.toNat (B l).size = B s2 := by rw [extract_tail, hyn, Nat.add_comm, ← List.drop_drop, hd2]
        have hl2 : s2.length ≤ l.length := by omega
        have r5 := eq_true (show 2 ≤ y2 by omega)
        have r6 := eq_true (show y2 ≤ ((B l).size : Int) by rw [B_size]; omega)
        have r7 := eq_true (show 0 ≤ y2 by omega)
        clear hn2 ht2 hd2 hy2v hyn hdl m2
        generalize B l = b1 at *
        obtain ⟨⟨z0, z1, z2, z3, z4, z5, z6, z7, z8⟩, ⟨f0, f1, f2, f3, f4, f5, f6, f7, f8⟩⟩ := cells9 KU.out
        go_wp2_with fail
        clear z0 z1 z2 z3 z4 z5 z6 z7 z8 f0 f1 f2 f3 f4 f5 f6 f7 f8
        refine (first_calls [63, 35] s2 _ (by omega) (by decide)).mono ?_
        rintro z w3 ⟨rfl, h⟩
        obtain ⟨ku, kz, hb⟩ := after9 (blk_put (cs' := #[.string (⟨#[]⟩ : ByteArray), .string (B host), .string (⟨#[]⟩ : ByteArray), .string (⟨#[]⟩ : ByteArray), .string (⟨#[]⟩ : ByteArray), .bool false, .bool true, .bool false, .bool false]) ((blk_put (cs' := #[.string (⟨#[]⟩ : ByteArray), .string (B host), .string (⟨#[]⟩ : ByteArray), .string (⟨#[]⟩ : ByteArray), .string (⟨#[]⟩ : ByteArray), .bool false, .bool false, .bool false, .bool false]) (KU.out) 1 _ rfl)) 6 _ rfl) (blk_far ((blk_far (KZ.out) (p := ⟨w.heap.size + 1, 1, none⟩) (by show w.heap.size ≠ w.heap.size + 1; omega) _)) (p := ⟨w.heap.size + 1, 6, none⟩) (by show w.heap.size ≠ w.heap.size + 1; omega) _) (Below.setCell (p := ⟨w.heap.size + 1, 6, none⟩) ((Below.setCell (p := ⟨w.heap.size + 1, 1, none⟩) (HB.out) (by show w.heap.size ≤ w.heap.size + 1; omega) _)) (by show w.heap.size ≤ w.heap.size + 1; omega) _) h
        clear h KU KZ HB
        have KZ := Aside0.mk kz
        have KU := Aside0.mk ku
        have HB := Aside0.mk hb
        clear kz ku hb
        clear ec2 ed2 r5 r6 r7 hy2 hx2
        have hn3 := tw_sum [63, 35] s2
        have ht3 := tw_take [63, 35] s2
        have hd3 := tw_drop [63, 35] s2
        have hq3 := head3 s2
        have hz3 : (B s2).size = s2.length := B_size s2
        obtain ⟨x3, hx3⟩ : ∃ x : Int, ((s2.takeWhile (notIn [63, 35])).length : Int) = x := ⟨_, rfl⟩
        rw [hx3]
        obtain ⟨path, hpath⟩ : ∃ q, s2.takeWhile (notIn [63, 35]) = q := ⟨_, rfl⟩
        obtain ⟨s3, hs3⟩ : ∃ q, s2.dropWhile (notIn [63, 35]) = q := ⟨_, rfl⟩
        rw [hpath, hs3] at hn3
        rw [hpath] at ht3 hd3 hx3
        rw [hs3] at hd3 hq3
        have HP := Lib.hid (And.intro hpath hs3)
        clear hpath hs3
        have ea : (B s2).extract 0 x3.toNat = B path := by rw [extract_head, ← hx3, Int.toNat_natCast, ht3]
        have eb : (B s2).extract x3.toNat (B s2).size = B s3 := by rw [extract_tail, ← hx3, Int.toNat_natCast, hd3]
        have r0 := eq_true (show 0 ≤ x3 by omega)
        have r1 := eq_true (show x3 ≤ ((B s2).size : Int) by rw [hz3]; omega)
        have hl3 : s3.length ≤ s2.length := by omega
        clear hn3 ht3 hd3 hx3 hz3
        generalize B s2 = b2 at *
        rcases hq3 with rfl | ⟨t3, rfl | rfl⟩
        · have HSP3 := Lib.hid (show sp3 [] = ([], false, []) from rfl)
          have e0 : ((B []).toList == ([] : List UInt8)) = true := by rw [B_toList]; rfl
          have e1 : ((B []).toList != ([] : List UInt8)) = false := by rw [B_toList]; rfl
          have e2 : (B []).toList.isEmpty = true := by rw [B_toList]; rfl
          have e3 : (!(B []).toList.isEmpty) = false := by rw [e2]; rfl
          generalize B [] = b3 at e0 e1 e2 e3 eb ⊢
          obtain ⟨⟨z0, z1, z2, z3, z4, z5, z6, z7, z8⟩, ⟨f0, f1, f2, f3, f4, f5, f6, f7, f8⟩⟩ := cells9 KU.out
          obtain ⟨⟨y0, y1, y2, y3, y4, y5, y6, y7, y8⟩, ⟨g0, g1, g2, g3, g4, g5, g6, g7, g8⟩⟩ := cells9 KZ.out
          have hv := split_is HSP0.out HSP1.out HP.out HSP3.out
          rw [HU.out] at hv
          subst hv
          go_wp2
          exact bodyPost_ret (results_cell_row rfl _ _ w.heap.size 24 _ (0, 0) _ rfl (put9 (blk_far (KZ.out) (p := ⟨w.heap.size + 1, 2, none⟩) (by show w.heap.size ≠ w.heap.size + 1; omega) _)) Tryd.underlying24 rfl (by kernel_rfl)) rfl ⟨rfl, below9 (Below.setCell (p := ⟨w.heap.size + 1, 2, none⟩) (HB.out) (by show w.heap.size ≤ w.heap.size + 1; omega) _)⟩
        · have hs4 := tw_sum [35] t3
          have hq4 := head4 t3
          have ht4 := tw_take [35] t3
          have hd4 := tw_drop [35] t3
          have e1 : ((B (63 :: t3)).toList != ([] : List UInt8)) = true := by rw [B_toList]; rfl
          have e0 : ((B (63 :: t3)).toList == ([] : List UInt8)) = false := by rw [B_toList]; rfl
          have e2 : (B (63 :: t3)).toList.isEmpty = false := by rw [B_toList]; rfl
          have e3 : (!(B (63 :: t3)).toList.isEmpty) = true := by rw [e2]; rfl
          have i0 := eq_true (show (0 : Int) < ((B (63 :: t3)).size : Int) by rw [B_size, List.length_cons]; omega)
          have i2 := eq_true (show 0 < (B (63 :: t3)).size by rw [B_size, List.length_cons]; omega)
          have i1 := bt_at (B (63 :: t3)) 0
          have i3 : bt (B (63 :: t3)) 0 = 63 := bt_head 63 t3
          have i7 : ∀ h : 0 < (B (63 :: t3)).size, ((((B (63 :: t3))[0]'h).toNat : Int)) = 63 := fun h => (i1 h).trans i3
          obtain ⟨⟨z0, z1, z2, z3, z4, z5, z6, z7, z8⟩, ⟨f0, f1, f2, f3, f4, f5, f6, f7, f8⟩⟩ := cells9 KU.out
          go_wp2_with fail
          clear z0 z1 z2 z3 z4 z5 z6 z7 z8 f0 f1 f2 f3 f4 f5 f6 f7 f8
          clear e0 e1 e2 e3
          refine (first_calls [35] (63 :: t3) _ (by omega) (by decide)).mono ?_
          rintro z w4 ⟨rfl, h⟩
          obtain ⟨ku, kz, hb⟩ := after9 (blk_put (cs' := #[.string (⟨#[]⟩ : ByteArray), .string (B host), .string (B path), .string (⟨#[]⟩ : ByteArray), .string (⟨#[]⟩ : ByteArray), .bool false, .bool true, .bool false, .bool false]) (KU.out) 2 _ rfl) (blk_far (KZ.out) (p := ⟨w.heap.size + 1, 2, none⟩) (by show w.heap.size ≠ w.heap.size + 1; omega) _) (Below.setCell (p := ⟨w.heap.size + 1, 2, none⟩) (HB.out) (by show w.heap.size ≤ w.heap.size + 1; omega) _) h
          clear h KU KZ HB
          have KZ := Aside0.mk kz
          have KU := Aside0.mk ku
          have HB := Aside0.mk hb
          clear kz ku hb
          have htw : (63 :: t3).takeWhile (notIn [35]) = 63 :: t3.takeWhile (notIn [35]) := rfl
          rw [htw, List.length_cons]
          obtain ⟨x4, hx4⟩ : ∃ x : Int, (((t3.takeWhile (notIn [35])).length + 1 : Nat) : Int) = x := ⟨_, rfl⟩
          rw [hx4]
          obtain ⟨query, hquery⟩ : ∃ q, t3.takeWhile (notIn [35]) = q := ⟨_, rfl⟩
          obtain ⟨s4, hs4e⟩ : ∃ q, t3.dropWhile (notIn [35]) = q := ⟨_, rfl⟩
          have HSP3 := Lib.hid (show sp3 (63 :: t3) = (query, true, s4) from by unfold sp3; rw [if_pos (show (63 :: t3 : Bs).head? = some 63 from rfl), List.tail_cons, hquery, hs4e])
          rw [hquery, hs4e] at hs4
          rw [hquery] at ht4 hd4 hx4
          rw [hs4e] at hd4 hq4
          clear hquery hs4e htw
          have hz4 : (B (63 :: t3)).size = t3.length + 1 := by rw [B_size, List.length_cons]
          have ec : (B (63 :: t3)).extract 1 x4.toNat = B query := by rw [B_extract, ← hx4, Int.toNat_natCast]; simp only [List.take_succ_cons, List.drop_succ_cons, List.drop_zero]; rw [ht4]
          have ed : (B (63 :: t3)).extract x4.toNat (B (63 :: t3)).size = B s4 := by rw [extract_tail, ← hx4, Int.toNat_natCast, List.drop_succ_cons, hd4]
          have r2 := eq_true (show 1 ≤ x4 by omega)
          have r3 := eq_true (show x4 ≤ ((B (63 :: t3)).size : Int) by rw [hz4]; omega)
          have r4 := eq_true (show 0 ≤ x4 by omega)
          clear hs4 ht4 hd4 hx4 hz4
          generalize B (63 :: t3) = b4 at *
          rcases hq4 with rfl | ⟨t4, rfl⟩
          · have e0 : ((B []).toList == ([] : List UInt8)) = true := by rw [B_toList]; rfl
            have e1 : ((B []).toList != ([] : List UInt8)) = false := by rw [B_toList]; rfl
            have e2 : (B []).toList.isEmpty = true := by rw [B_toList]; rfl
            have e3 : (!(B []).toList.isEmpty) = false := by rw [e2]; rfl
            generalize B [] = b5 at e0 e1 e2 e3 ed ⊢
            obtain ⟨⟨z0, z1, z2, z3, z4, z5, z6, z7, z8⟩, ⟨f0, f1, f2, f3, f4, f5, f6, f7, f8⟩⟩ := cells9 KU.out
            obtain ⟨⟨y0, y1, y2, y3, y4, y5, y6, y7, y8⟩, ⟨g0, g1, g2, g3, g4, g5, g6, g7, g8⟩⟩ := cells9 KZ.out
            have hv := split_is HSP0.out HSP1.out HP.out HSP3.out
            rw [HU.out] at hv
            subst hv
            go_wp2
            exact bodyPost_ret (results_cell_row rfl _ _ w.heap.size 24 _ (0, 0) _ rfl (put9 (blk_far ((blk_far (KZ.out) (p := ⟨w.heap.size + 1, 3, none⟩) (by show w.heap.size ≠ w.heap.size + 1; omega) _)) (p := ⟨w.heap.size + 1, 7, none⟩) (by show w.heap.size ≠ w.heap.size + 1; omega) _)) Tryd.underlying24 rfl (by kernel_rfl)) rfl ⟨rfl, below9 (Below.setCell (p := ⟨w.heap.size + 1, 7, none⟩) ((Below.setCell (p := ⟨w.heap.size + 1, 3, none⟩) (HB.out) (by show w.heap.size ≤ w.heap.size + 1; omega) _)) (by show w.heap.size ≤ w.heap.size + 1; omega) _)⟩
          · have e1 : ((B (35 :: t4)).toList != ([] : List UInt8)) = true := by rw [B_toList]; rfl
            have e0 : ((B (35 :: t4)).toList == ([] : List UInt8)) = false := by rw [B_toList]; rfl
            have e2 : (B (35 :: t4)).toList.isEmpty = false := by rw [B_toList]; rfl
            have e3 : (!(B (35 :: t4)).toList.isEmpty) = true := by rw [e2]; rfl
            have i0 := eq_true (show (1 : Int) ≤ ((B (35 :: t4)).size : Int) by rw [B_size, List.length_cons]; omega)
            have i2 := eq_true (show 1 ≤ (B (35 :: t4)).size by rw [B_size, List.length_cons]; omega)
            have i1 : (B (35 :: t4)).extract 1 (B (35 :: t4)).size = B t4 := extract_tail (35 :: t4) 1
            generalize B (35 :: t4) = b5 at *
            obtain ⟨⟨z0, z1, z2, z3, z4, z5, z6, z7, z8⟩, ⟨f0, f1, f2, f3, f4, f5, f6, f7, f8⟩⟩ := cells9 KU.out
            obtain ⟨⟨y0, y1, y2, y3, y4, y5, y6, y7, y8⟩, ⟨g0, g1, g2, g3, g4, g5, g6, g7, g8⟩⟩ := cells9 KZ.out
            have hv := split_is HSP0.out HSP1.out HP.out HSP3.out
            rw [HU.out] at hv
            subst hv
            go_wp2
            exact bodyPost_ret (results_cell_row rfl _ _ w.heap.size 24 _ (0, 0) _ rfl (put9 (blk_far ((blk_far ((blk_far ((blk_far (KZ.out) (p := ⟨w.heap.size + 1, 3, none⟩) (by show w.heap.size ≠ w.heap.size + 1; omega) _)) (p := ⟨w.heap.size + 1, 7, none⟩) (by show w.heap.size ≠ w.heap.size + 1; omega) _)) (p := ⟨w.heap.size + 1, 4, none⟩) (by show w.heap.size ≠ w.heap.size + 1; omega) _)) (p := ⟨w.heap.size + 1, 8, none⟩) (by show w.heap.size ≠ w.heap.size + 1; omega) _)) Tryd.underlying24 rfl (by kernel_rfl)) rfl ⟨rfl, below9 (Below.setCell (p := ⟨w.heap.size + 1, 8, none⟩) ((Below.setCell (p := ⟨w.heap.size + 1, 4, none⟩) ((Below.setCell (p := ⟨w.heap.size + 1, 7, none⟩) ((Below.setCell (p := ⟨w.heap.size + 1, 3, none⟩) (HB.out) (by show w.heap.size ≤ w.heap.size + 1; omega) _)) (by show w.heap.size ≤ w.heap.size + 1; omega) _)) (by show w.heap.size ≤ w.heap.size + 1; omega) _)) (by show w.heap.size ≤ w.heap.size + 1; omega) _)⟩
        · have HSP3 := Lib.hid (show sp3 (35 :: t3) = ([], false, 35 :: t3) from by unfold sp3; rw [if_neg (by simp)])
          have e1 : ((B (35 :: t3)).toList != ([] : List UInt8)) = true := by rw [B_toList]; rfl
          have e0 : ((B (35 :: t3)).toList == ([] : List UInt8)) = false := by rw [B_toList]; rfl
          have e2 : (B (35 :: t3)).toList.isEmpty = false := by rw [B_toList]; rfl
          have e3 : (!(B (35 :: t3)).toList.isEmpty) = true := by rw [e2]; rfl
          have i0 := eq_true (show (0 : Int) < ((B (35 :: t3)).size : Int) by rw [B_size, List.length_cons]; omega)
          have i2 := eq_true (show 0 < (B (35 :: t3)).size by rw [B_size, List.length_cons]; omega)
          have i4 := eq_true (show (1 : Int) ≤ ((B (35 :: t3)).size : Int) by rw [B_size, List.length_cons]; omega)
          have i6 := eq_true (show 1 ≤ (B (35 :: t3)).size by rw [B_size, List.length_cons]; omega)
          have i1 := bt_at (B (35 :: t3)) 0
          have i3 : bt (B (35 :: t3)) 0 = 35 := bt_head 35 t3
          have i7 : ∀ h : 0 < (B (35 :: t3)).size, ((((B (35 :: t3))[0]'h).toNat : Int)) = 35 := fun h => (i1 h).trans i3
          have i5 : (B (35 :: t3)).extract 1 (B (35 :: t3)).size = B t3 := extract_tail (35 :: t3) 1
          generalize B (35 :: t3) = b3 at *
          obtain ⟨⟨z0, z1, z2, z3, z4, z5, z6, z7, z8⟩, ⟨f0, f1, f2, f3, f4, f5, f6, f7, f8⟩⟩ := cells9 KU.out
          obtain ⟨⟨y0, y1, y2, y3, y4, y5, y6, y7, y8⟩, ⟨g0, g1, g2, g3, g4, g5, g6, g7, g8⟩⟩ := cells9 KZ.out
          have hv := split_is HSP0.out HSP1.out HP.out HSP3.out
          rw [HU.out] at hv
          subst hv
          go_wp2
          exact bodyPost_ret (results_cell_row rfl _ _ w.heap.size 24 _ (0, 0) _ rfl (put9 (blk_far ((blk_far ((blk_far (KZ.out) (p := ⟨w.heap.size + 1, 2, none⟩) (by show w.heap.size ≠ w.heap.size + 1; omega) _)) (p := ⟨w.heap.size + 1, 4, none⟩) (by show w.heap.size ≠ w.heap.size + 1; omega) _)) (p := ⟨w.heap.size + 1, 8, none⟩) (by show w.heap.size ≠ w.heap.size + 1; omega) _)) Tryd.underlying24 rfl (by kernel_rfl)) rfl ⟨rfl, below9 (Below.setCell (p := ⟨w.heap.size + 1, 8, none⟩) ((Below.setCell (p := ⟨w.heap.size + 1, 4, none⟩) ((Below.setCell (p := ⟨w.heap.size + 1, 2, none⟩) (HB.out) (by show w.heap.size ≤ w.heap.size + 1; omega) _)) (by show w.heap.size ≤ w.heap.size + 1; omega) _)) (by show w.heap.size ≤ w.heap.size + 1; omega) _)⟩
      · have m4 : (((B l).extract 0 2).toList == ([47, 47] : List UInt8)) = false := by rw [extract_head, B_toList]; exact (take2 l).2 hp
        have HSP1 := Lib.hid (show sp1 l = ([], false, l) from by unfold sp1; rw [if_neg hp])
        obtain ⟨⟨z0, z1, z2, z3, z4, z5, z6, z7, z8⟩, ⟨f0, f1, f2, f3, f4, f5, f6, f7, f8⟩⟩ := cells9 KU.out
        go_wp2_with fail
        clear z0 z1 z2 z3 z4 z5 z6 z7 z8 f0 f1 f2 f3 f4 f5 f6 f7 f8
        clear m0 m1 m2 m3 m4 hp h1
        refine (first_calls [63, 35] l _ (by omega) (by decide)).mono ?_
        rintro z w5 ⟨rfl, h⟩
        obtain ⟨ku, kz, hb⟩ := after9 KU.out KZ.out HB.out h
        clear h KU KZ HB
        have KZ := Aside0.mk kz
        have KU := Aside0.mk ku
        have HB := Aside0.mk hb
        clear kz ku hb
        obtain ⟨s2, hs2⟩ : ∃ q, q = l := ⟨_, rfl⟩
        subst hs2
        have hl2 : s2.length < 4000000000 := by omega
        have hn3 := tw_sum [63, 35] s2
        have ht3 := tw_take [63, 35] s2
        have hd3 := tw_drop [63, 35] s2
        have hq3 := head3 s2
        have hz3 : (B s2).size = s2.length := B_size s2
        obtain ⟨x3, hx3⟩ : ∃ x : Int, ((s2.takeWhile (notIn [63, 35])).length : Int) = x := ⟨_, rfl⟩
        rw [hx3]
        obtain ⟨path, hpath⟩ : ∃ q, s2.takeWhile (notIn [63, 35]) = q := ⟨_, rfl⟩
        obtain ⟨s3, hs3⟩ : ∃ q, s2.dropWhile (notIn [63, 35]) = q := ⟨_, rfl⟩
        rw [hpath, hs3] at hn3
        rw [hpath] at ht3 hd3 hx3
        rw [hs3] at hd3 hq3
        have HP := Lib.hid (And.intro hpath hs3)
        clear hpath hs3
        have ea : (B s2).extract 0 x3.toNat = B path := by rw [extract_head, ← hx3, Int.toNat_natCast, ht3]
        have eb : (B s2).extract x3.toNat (B s2).size = B s3 := by rw [extract_tail, ← hx3, Int.toNat_natCast, hd3]
        have r0 := eq_true (show 0 ≤ x3 by omega)
        have r1 := eq_true (show x3 ≤ ((B s2).size : Int) by rw [hz3]; omega)
        have hl3 : s3.length ≤ s2.length := by omega
        clear hn3 ht3 hd3 hx3 hz3
        generalize B s2 = b2 at *
        rcases hq3 with rfl | ⟨t3, rfl | rfl⟩
        · have HSP3 := Lib.hid (show sp3 [] = ([], false, []) from rfl)
          have e0 : ((B []).toList == ([] : List UInt8)) = true := by rw [B_toList]; rfl
          have e1 : ((B []).toList != ([] : List UInt8)) = false := by rw [B_toList]; rfl
          have e2 : (B []).toList.isEmpty = true := by rw [B_toList]; rfl
          have e3 : (!(B []).toList.isEmpty) = false := by rw [e2]; rfl
          generalize B [] = b3 at e0 e1 e2 e3 eb ⊢
          obtain ⟨⟨z0, z1, z2, z3, z4, z5, z6, z7, z8⟩, ⟨f0, f1, f2, f3, f4, f5, f6, f7, f8⟩⟩ := cells9 KU.out
          obtain ⟨⟨y0, y1, y2, y3, y4, y5, y6, y7, y8⟩, ⟨g0, g1, g2, g3, g4, g5, g6, g7, g8⟩⟩ := cells9 KZ.out
          have hv := split_is HSP0.out HSP1.out HP.out HSP3.out
          rw [HU.out] at hv
          subst hv
          go_wp2
          exact bodyPost_ret (results_cell_row rfl _ _ w.heap.size 24 _ (0, 0) _ rfl (put9 (blk_far (KZ.out) (p := ⟨w.heap.size + 1, 2, none⟩) (by show w.heap.size ≠ w.heap.size + 1; omega) _)) Tryd.underlying24 rfl (by kernel_rfl)) rfl ⟨rfl, below9 (Below.setCell (p := ⟨w.heap.size + 1, 2, none⟩) (HB.out) (by show w.heap.size ≤ w.heap.size + 1; omega) _)⟩
        · have hs4 := tw_sum [35] t3
          have hq4 := head4 t3
          have ht4 := tw_take [35] t3
          have hd4 := tw_drop [35] t3
          have e1 : ((B (63 :: t3)).toList != ([] : List UInt8)) = true := by rw [B_toList]; rfl
          have e0 : ((B (63 :: t3)).toList == ([] : List UInt8)) = false := by rw [B_toList]; rfl
          have e2 : (B (63 :: t3)).toList.isEmpty = false := by rw [B_toList]; rfl
          have e3 : (!(B (63 :: t3)).toList.isEmpty) = true := by rw [e2]; rfl
          have i0 := eq_true (show (0 : Int) < ((B (63 :: t3)).size : Int) by rw [B_size, List.length_cons]; omega)
          have i2 := eq_true (show 0 < (B (63 :: t3)).size by rw [B_size, List.length_cons]; omega)
          have i1 := bt_at (B (63 :: t3)) 0
          have i3 : bt (B (63 :: t3)) 0 = 63 := bt_head 63 t3
          have i7 : ∀ h : 0 < (B (63 :: t3)).size, ((((B (63 :: t3))[0]'h).toNat : Int)) = 63 := fun h => (i1 h).trans i3
          obtain ⟨⟨z0, z1, z2, z3, z4, z5, z6, z7, z8⟩, ⟨f0, f1, f2, f3, f4, f5, f6, f7, f8⟩⟩ := cells9 KU.out
          go_wp2_with fail
          clear z0 z1 z2 z3 z4 z5 z6 z7 z8 f0 f1 f2 f3 f4 f5 f6 f7 f8
          clear e0 e1 e2 e3
          refine (first_calls [35] (63 :: t3) _ (by omega) (by decide)).mono ?_
          rintro z w6 ⟨rfl, h⟩
          obtain ⟨ku, kz, hb⟩ := after9 (blk_put (cs' := #[.string (⟨#[]⟩ : ByteArray), .string (⟨#[]⟩ : ByteArray), .string (B path), .string (⟨#[]⟩ : ByteArray), .string (⟨#[]⟩ : ByteArray), .bool false, .bool false, .bool false, .bool false]) (KU.out) 2 _ rfl) (blk_far (KZ.out) (p := ⟨w.heap.size + 1, 2, none⟩) (by show w.heap.size ≠ w.heap.size + 1; omega) _) (Below.setCell (p := ⟨w.heap.size + 1, 2, none⟩) (HB.out) (by show w.heap.size ≤ w.heap.size + 1; omega) _) h
          clear h KU KZ HB
          have KZ := Aside0.mk kz
          have KU := Aside0.mk ku
          have HB := Aside0.mk hb
          clear kz ku hb
          have htw : (63 :: t3).takeWhile (notIn [35]) = 63 :: t3.takeWhile (notIn [35]) := rfl
          rw [htw, List.length_cons]
          obtain ⟨x4, hx4⟩ : ∃ x : Int, (((t3.takeWhile (notIn [35])).length + 1 : Nat) : Int) = x := ⟨_, rfl⟩
          rw [hx4]
          obtain ⟨query, hquery⟩ : ∃ q, t3.takeWhile (notIn [35]) = q := ⟨_, rfl⟩
          obtain ⟨s4, hs4e⟩ : ∃ q, t3.dropWhile (notIn [35]) = q := ⟨_, rfl⟩
          have HSP3 := Lib.hid (show sp3 (63 :: t3) = (query, true, s4) from by unfold sp3; rw [if_pos (show (63 :: t3 : Bs).head? = some 63 from rfl), List.tail_cons, hquery, hs4e])
          rw [hquery, hs4e] at hs4
          rw [hquery] at ht4 hd4 hx4
          rw [hs4e] at hd4 hq4
          clear hquery hs4e htw
          have hz4 : (B (63 :: t3)).size = t3.length + 1 := by rw [B_size, List.length_cons]
          have ec : (B (63 :: t3)).extract 1 x4.toNat = B query := by rw [B_extract, ← hx4, Int.toNat_natCast]; simp only [List.take_succ_cons, List.drop_succ_cons, List.drop_zero]; rw [ht4]
          have ed : (B (63 :: t3)).extract x4.toNat (B (63 :: t3)).size = B s4 := by rw [extract_tail, ← hx4, Int.toNat_natCast, List.drop_succ_cons, hd4]
          have r2 := eq_true (show 1 ≤ x4 by omega)
          have r3 := eq_true (show x4 ≤ ((B (63 :: t3)).size : Int) by rw [hz4]; omega)
          have r4 := eq_true (show 0 ≤ x4 by omega)
          clear hs4 ht4 hd4 hx4 hz4
          generalize B (63 :: t3) = b4 at *
          rcases hq4 with rfl | ⟨t4, rfl⟩
          · have e0 : ((B []).toList == ([] : List UInt8)) = true := by rw [B_toList]; rfl
            have e1 : ((B []).toList != ([] : List UInt8)) = false := by rw [B_toList]; rfl
            have e2 : (B []).toList.isEmpty = true := by rw [B_toList]; rfl
            have e3 : (!(B []).toList.isEmpty) = false := by rw [e2]; rfl
            generalize B [] = b5 at e0 e1 e2 e3 ed ⊢
            obtain ⟨⟨z0, z1, z2, z3, z4, z5, z6, z7, z8⟩, ⟨f0, f1, f2, f3, f4, f5, f6, f7, f8⟩⟩ := cells9 KU.out
            obtain ⟨⟨y0, y1, y2, y3, y4, y5, y6, y7, y8⟩, ⟨g0, g1, g2, g3, g4, g5, g6, g7, g8⟩⟩ := cells9 KZ.out
            have hv := split_is HSP0.out HSP1.out HP.out HSP3.out
            rw [HU.out] at hv
            subst hv
            go_wp2
            exact bodyPost_ret (results_cell_row rfl _ _ w.heap.size 24 _ (0, 0) _ rfl (put9 (blk_far ((blk_far (KZ.out) (p := ⟨w.heap.size + 1, 3, none⟩) (by show w.heap.size ≠ w.heap.size + 1; omega) _)) (p := ⟨w.heap.size + 1, 7, none⟩) (by show w.heap.size ≠ w.heap.size + 1; omega) _)) Tryd.underlying24 rfl (by kernel_rfl)) rfl ⟨rfl, below9 (Below.setCell (p := ⟨w.heap.size + 1, 7, none⟩) ((Below.setCell (p := ⟨w.heap.size + 1, 3, none⟩) (HB.out) (by show w.heap.size ≤ w.heap.size + 1; omega) _)) (by show w.heap.size ≤ w.heap.size + 1; omega) _)⟩
          · have e1 : ((B (35 :: t4)).toList != ([] : List UInt8)) = true := by rw [B_toList]; rfl
            have e0 : ((B (35 :: t4)).toList == ([] : List UInt8)) = false := by rw [B_toList]; rfl
            have e2 : (B (35 :: t4)).toList.isEmpty = false := by rw [B_toList]; rfl
            have e3 : (!(B (35 :: t4)).toList.isEmpty) = true := by rw [e2]; rfl
            have i0 := eq_true (show (1 : Int) ≤ ((B (35 :: t4)).size : Int) by rw [B_size, List.length_cons]; omega)
            have i2 := eq_true (show 1 ≤ (B (35 :: t4)).size by rw [B_size, List.length_cons]; omega)
            have i1 : (B (35 :: t4)).extract 1 (B (35 :: t4)).size = B t4 := extract_tail (35 :: t4) 1
            generalize B (35 :: t4) = b5 at *
            obtain ⟨⟨z0, z1, z2, z3, z4, z5, z6, z7, z8⟩, ⟨f0, f1, f2, f3, f4, f5, f6, f7, f8⟩⟩ := cells9 KU.out
            obtain ⟨⟨y0, y1, y2, y3, y4, y5, y6, y7, y8⟩, ⟨g0, g1, g2, g3, g4, g5, g6, g7, g8⟩⟩ := cells9 KZ.out
            have hv := split_is HSP0.out HSP1.out HP.out HSP3.out
            rw [HU.out] at hv
            subst hv
            go_wp2
            exact bodyPost_ret (results_cell_row rfl _ _ w.heap.size 24 _ (0, 0) _ rfl (put9 (blk_far ((blk_far ((blk_far ((blk_far (KZ.out) (p := ⟨w.heap.size + 1, 3, none⟩) (by show w.heap.size ≠ w.heap.size + 1; omega) _)) (p := ⟨w.heap.size + 1, 7, none⟩) (by show w.heap.size ≠ w.heap.size + 1; omega) _)) (p := ⟨w.heap.size + 1, 4, none⟩) (by show w.heap.size ≠ w.heap.size + 1; omega) _)) (p := ⟨w.heap.size + 1, 8, none⟩) (by show w.heap.size ≠ w.heap.size + 1; omega) _)) Tryd.underlying24 rfl (by kernel_rfl)) rfl ⟨rfl, below9 (Below.setCell (p := ⟨w.heap.size + 1, 8, none⟩) ((Below.setCell (p := ⟨w.heap.size + 1, 4, none⟩) ((Below.setCell (p := ⟨w.heap.size + 1, 7, none⟩) ((Below.setCell (p := ⟨w.heap.size + 1, 3, none⟩) (HB.out) (by show w.heap.size ≤ w.heap.size + 1; omega) _)) (by show w.heap.size ≤ w.heap.size + 1; omega) _)) (by show w.heap.size ≤ w.heap.size + 1; omega) _)) (by show w.heap.size ≤ w.heap.size + 1; omega) _)⟩
        · have HSP3 := Lib.hid (show sp3 (35 :: t3) = ([], false, 35 :: t3) from by unfold sp3; rw [if_neg (by simp)])
          have e1 : ((B (35 :: t3)).toList != ([] : List UInt8)) = true := by rw [B_toList]; rfl
          have e0 : ((B (35 :: t3)).toList == ([] : List UInt8)) = false := by rw [B_toList]; rfl
          have e2 : (B (35 :: t3)).toList.isEmpty = false := by rw [B_toList]; rfl
          have e3 : (!(B (35 :: t3)).toList.isEmpty) = true := by rw [e2]; rfl
          have i0 := eq_true (show (0 : Int) < ((B (35 :: t3)).size : Int) by rw [B_size, List.length_cons]; omega)
          have i2 := eq_true (show 0 < (B (35 :: t3)).size by rw [B_size, List.length_cons]; omega)
          have i4 := eq_true (show (1 : Int) ≤ ((B (35 :: t3)).size : Int) by rw [B_size, List.length_cons]; omega)
          have i6 := eq_true (show 1 ≤ (B (35 :: t3)).size by rw [B_size, List.length_cons]; omega)
          have i1 := bt_at (B (35 :: t3)) 0
          have i3 : bt (B (35 :: t3)) 0 = 35 := bt_head 35 t3
          have i7 : ∀ h : 0 < (B (35 :: t3)).size, ((((B (35 :: t3))[0]'h).toNat : Int)) = 35 := fun h => (i1 h).trans i3
          have i5 : (B (35 :: t3)).extract 1 (B (35 :: t3)).size = B t3 := extract_tail (35 :: t3) 1
          generalize B (35 :: t3) = b3 at *
          obtain ⟨⟨z0, z1, z2, z3, z4, z5, z6, z7, z8⟩, ⟨f0, f1, f2, f3, f4, f5, f6, f7, f8⟩⟩ := cells9 KU.out
          obtain ⟨⟨y0, y1, y2, y3, y4, y5, y6, y7, y8⟩, ⟨g0, g1, g2, g3, g4, g5, g6, g7, g8⟩⟩ := cells9 KZ.out
          have hv := split_is HSP0.out HSP1.out HP.out HSP3.out
          rw [HU.out] at hv
          subst hv
          go_wp2
          exact bodyPost_ret (results_cell_row rfl _ _ w.heap.size 24 _ (0, 0) _ rfl (put9 (blk_far ((blk_far ((blk_far (KZ.out) (p := ⟨w.heap.size + 1, 2, none⟩) (by show w.heap.size ≠ w.heap.size + 1; omega) _)) (p := ⟨w.heap.size + 1, 4, none⟩) (by show w.heap.size ≠ w.heap.size + 1; omega) _)) (p := ⟨w.heap.size + 1, 8, none⟩) (by show w.heap.size ≠ w.heap.size + 1; omega) _)) Tryd.underlying24 rfl (by kernel_rfl)) rfl ⟨rfl, below9 (Below.setCell (p := ⟨w.heap.size + 1, 8, none⟩) ((Below.setCell (p := ⟨w.heap.size + 1, 4, none⟩) ((Below.setCell (p := ⟨w.heap.size + 1, 2, none⟩) (HB.out) (by show w.heap.size ≤ w.heap.size + 1; omega) _)) (by show w.heap.size ≤ w.heap.size + 1; omega) _)) (by show w.heap.size ≤ w.heap.size + 1; omega) _)⟩
    · have m0 : decide ((1 : Int) < ((B l).size : Int)) = false := decide_eq_false (by rw [B_size]; omega)
      have m1 : decide (1 < (B l).size) = false := decide_eq_false (by rw [B_size]; omega)
      have HSP1 := Lib.hid (show sp1 l = ([], false, l) from by unfold sp1; rw [if_neg (by rw [short2 l (by omega)]; decide)])
      obtain ⟨⟨z0, z1, z2, z3, z4, z5, z6, z7, z8⟩, ⟨f0, f1, f2, f3, f4, f5, f6, f7, f8⟩⟩ := cells9 KU.out
      go_wp2_with fail
      clear z0 z1 z2 z3 z4 z5 z6 z7 z8 f0 f1 f2 f3 f4 f5 f6 f7 f8
      clear m0 m1 h1
      refine (first_calls [63, 35] l _ (by omega) (by decide)).mono ?_
      rintro z w7 ⟨rfl, h⟩
      obtain ⟨ku, kz, hb⟩ := after9 KU.out KZ.out HB.out h
      clear h KU KZ HB
      have KZ := Aside0.mk kz
      have KU := Aside0.mk ku
      have HB := Aside0.mk hb
      clear kz ku hb
      obtain ⟨s2, hs2⟩ : ∃ q, q = l := ⟨_, rfl⟩
      subst hs2
      have hl2 : s2.length < 4000000000 := by omega
      have hn3 := tw_sum [63, 35] s2
      have ht3 := tw_take [63, 35] s2
      have hd3 := tw_drop [63, 35] s2
      have hq3 := head3 s2
      have hz3 : (B s2).size = s2.length := B_size s2
      obtain ⟨x3, hx3⟩ : ∃ x : Int, ((s2.takeWhile (notIn [63, 35])).length : Int) = x := ⟨_, rfl⟩
      rw [hx3]
      obtain ⟨path, hpath⟩ : ∃ q, s2.takeWhile (notIn [63, 35]) = q := ⟨_, rfl⟩
      obtain ⟨s3, hs3⟩ : ∃ q, s2.dropWhile (notIn [63, 35]) = q := ⟨_, rfl⟩
      rw [hpath, hs3] at hn3
      rw [hpath] at ht3 hd3 hx3
      rw [hs3] at hd3 hq3
      have HP := Lib.hid (And.intro hpath hs3)
      clear hpath hs3
      have ea : (B s2).extract 0 x3.toNat = B path := by rw [extract_head, ← hx3, Int.toNat_natCast, ht3]
      have eb : (B s2).extract x3.toNat (B s2).size = B s3 := by rw [extract_tail, ← hx3, Int.toNat_natCast, hd3]
      have r0 := eq_true (show 0 ≤ x3 by omega)
      have r1 := eq_true (show x3 ≤ ((B s2).size : Int) by rw [hz3]; omega)
      have hl3 : s3.length ≤ s2.length := by omega
      clear hn3 ht3 hd3 hx3 hz3
      generalize B s2 = b2 at *
      rcases hq3 with rfl | ⟨t3, rfl | rfl⟩
      · have HSP3 := Lib.hid (show sp3 [] = ([], false, []) from rfl)
        have e0 : ((B []).toList == ([] : List UInt8)) = true := by rw [B_toList]; rfl
        have e1 : ((B []).toList != ([] : List UInt8)) = false := by rw [B_toList]; rfl
        have e2 : (B []).toList.isEmpty = true := by rw [B_toList]; rfl
        have e3 : (!(B []).toList.isEmpty) = false := by rw [e2]; rfl
        generalize B [] = b3 at e0 e1 e2 e3 eb ⊢
        obtain ⟨⟨z0, z1, z2, z3, z4, z5, z6, z7, z8⟩, ⟨f0, f1, f2, f3, f4, f5, f6, f7, f8⟩⟩ := cells9 KU.out
        obtain ⟨⟨y0, y1, y2, y3, y4, y5, y6, y7, y8⟩, ⟨g0, g1, g2, g3, g4, g5, g6, g7, g8⟩⟩ := cells9 KZ.out
        have hv := split_is HSP0.out HSP1.out HP.out HSP3.out
        rw [HU.out] at hv
        subst hv
        go_wp2
        exact bodyPost_ret (results_cell_row rfl _ _ w.heap.size 24 _ (0, 0) _ rfl (put9 (blk_far (KZ.out) (p := ⟨w.heap.size + 1, 2, none⟩) (by show w.heap.size ≠ w.heap.size + 1; omega) _)) Tryd.underlying24 rfl (by kernel_rfl)) rfl ⟨rfl, below9 (Below.setCell (p := ⟨w.heap.size + 1, 2, none⟩) (HB.out) (by show w.heap.size ≤ w.heap.size + 1; omega) _)⟩
      · have hs4 := tw_sum [35] t3
        have hq4 := head4 t3
        have ht4 := tw_take [35] t3
        have hd4 := tw_drop [35] t3
        have e1 : ((B (63 :: t3)).toList != ([] : List UInt8)) = true := by rw [B_toList]; rfl
        have e0 : ((B (63 :: t3)).toList == ([] : List UInt8)) = false := by rw [B_toList]; rfl
        have e2 : (B (63 :: t3)).toList.isEmpty = false := by rw [B_toList]; rfl
        have e3 : (!(B (63 :: t3)).toList.isEmpty) = true := by rw [e2]; rfl
        have i0 := eq_true (show (0 : Int) < ((B (63 :: t3)).size : Int) by rw [B_size, List.length_cons]; omega)
        have i2 := eq_true (show 0 < (B (63 :: t3)).size by rw [B_size, List.length_cons]; omega)
        have i1 := bt_at (B (63 :: t3)) 0
        have i3 : bt (B (63 :: t3)) 0 = 63 := bt_head 63 t3
        have i7 : ∀ h : 0 < (B (63 :: t3)).size, ((((B (63 :: t3))[0]'h).toNat : Int)) = 63 := fun h => (i1 h).trans i3
        obtain ⟨⟨z0, z1, z2, z3, z4, z5, z6, z7, z8⟩, ⟨f0, f1, f2, f3, f4, f5, f6, f7, f8⟩⟩ := cells9 KU.out
        go_wp2_with fail
        clear z0 z1 z2 z3 z4 z5 z6 z7 z8 f0 f1 f2 f3 f4 f5 f6 f7 f8
        clear e0 e1 e2 e3
        refine (first_calls [35] (63 :: t3) _ (by omega) (by decide)).mono ?_
        rintro z w8 ⟨rfl, h⟩
        obtain ⟨ku, kz, hb⟩ := after9 (blk_put (cs' := #[.string (⟨#[]⟩ : ByteArray), .string (⟨#[]⟩ : ByteArray), .string (B path), .string (⟨#[]⟩ : ByteArray), .string (⟨#[]⟩ : ByteArray), .bool false, .bool false, .bool false, .bool false]) (KU.out) 2 _ rfl) (blk_far (KZ.out) (p := ⟨w.heap.size + 1, 2, none⟩) (by show w.heap.size ≠ w.heap.size + 1; omega) _) (Below.setCell (p := ⟨w.heap.size + 1, 2, none⟩) (HB.out) (by show w.heap.size ≤ w.heap.size + 1; omega) _) h
        clear h KU KZ HB
        have KZ := Aside0.mk kz
        have KU := Aside0.mk ku
        have HB := Aside0.mk hb
        clear kz ku hb
        have htw : (63 :: t3).takeWhile (notIn [35]) = 63 :: t3.takeWhile (notIn [35]) := rfl
        rw [htw, List.length_cons]
        obtain ⟨x4, hx4⟩ : ∃ x : Int, (((t3.takeWhile (notIn [35])).length + 1 : Nat) : Int) = x := ⟨_, rfl⟩
        rw [hx4]
        obtain ⟨query, hquery⟩ : ∃ q, t3.takeWhile (notIn [35]) = q := ⟨_, rfl⟩
        obtain ⟨s4, hs4e⟩ : ∃ q, t3.dropWhile (notIn [35]) = q := ⟨_, rfl⟩
        have HSP3 := Lib.hid (show sp3 (63 :: t3) = (query, true, s4) from by unfold sp3; rw [if_pos (show (63 :: t3 : Bs).head? = some 63 from rfl), List.tail_cons, hquery, hs4e])
        rw [hquery, hs4e] at hs4
        rw [hquery] at ht4 hd4 hx4
        rw [hs4e] at hd4 hq4
        clear hquery hs4e htw
        have hz4 : (B (63 :: t3)).size = t3.length + 1 := by rw [B_size, List.length_cons]
        have ec : (B (63 :: t3)).extract 1 x4.toNat = B query := by rw [B_extract, ← hx4, Int.toNat_natCast]; simp only [List.take_succ_cons, List.drop_succ_cons, List.drop_zero]; rw [ht4]
        have ed : (B (63 :: t3)).extract x4.toNat (B (63 :: t3)).size = B s4 := by rw [extract_tail, ← hx4, Int.toNat_natCast, List.drop_succ_cons, hd4]
        have r2 := eq_true (show 1 ≤ x4 by omega)
        have r3 := eq_true (show x4 ≤ ((B (63 :: t3)).size : Int) by rw [hz4]; omega)
        have r4 := eq_true (show 0 ≤ x4 by omega)
        clear hs4 ht4 hd4 hx4 hz4
        generalize B (63 :: t3) = b4 at *
        rcases hq4 with rfl | ⟨t4, rfl⟩
        · have e0 : ((B []).toList == ([] : List UInt8)) = true := by rw [B_toList]; rfl
          have e1 : ((B []).toList != ([] : List UInt8)) = false := by rw [B_toList]; rfl
          have e2 : (B []).toList.isEmpty = true := by rw [B_toList]; rfl
          have e3 : (!(B []).toList.isEmpty) = false := by rw [e2]; rfl
          generalize B [] = b5 at e0 e1 e2 e3 ed ⊢
          obtain ⟨⟨z0, z1, z2, z3, z4, z5, z6, z7, z8⟩, ⟨f0, f1, f2, f3, f4, f5, f6, f7, f8⟩⟩ := cells9 KU.out
          obtain ⟨⟨y0, y1, y2, y3, y4, y5, y6, y7, y8⟩, ⟨g0, g1, g2, g3, g4, g5, g6, g7, g8⟩⟩ := cells9 KZ.out
          have hv := split_is HSP0.out HSP1.out HP.out HSP3.out
          rw [HU.out] at hv
          subst hv
          go_wp2
          exact bodyPost_ret (results_cell_row rfl _ _ w.heap.size 24 _ (0, 0) _ rfl (put9 (blk_far ((blk_far (KZ.out) (p := ⟨w.heap.size + 1, 3, none⟩) (by show w.heap.size ≠ w.heap.size + 1; omega) _)) (p := ⟨w.heap.size + 1, 7, none⟩) (by show w.heap.size ≠ w.heap.size + 1; omega) _)) Tryd.underlying24 rfl (by kernel_rfl)) rfl ⟨rfl, below9 (Below.setCell (p := ⟨w.heap.size + 1, 7, none⟩) ((Below.setCell (p := ⟨w.heap.size + 1, 3, none⟩) (HB.out) (by show w.heap.size ≤ w.heap.size + 1; omega) _)) (by show w.heap.size ≤ w.heap.size + 1; omega) _)⟩
        · have e1 : ((B (35 :: t4)).toList != ([] : List UInt8)) = true := by rw [B_toList]; rfl
          have e0 : ((B (35 :: t4)).toList == ([] : List UInt8)) = false := by rw [B_toList]; rfl
          have e2 : (B (35 :: t4)).toList.isEmpty = false := by rw [B_toList]; rfl
          have e3 : (!(B (35 :: t4)).toList.isEmpty) = true := by rw [e2]; rfl
          have i0 := eq_true (show (1 : Int) ≤ ((B (35 :: t4)).size : Int) by rw [B_size, List.length_cons]; omega)
          have i2 := eq_true (show 1 ≤ (B (35 :: t4)).size by rw [B_size, List.length_cons]; omega)
          have i1 : (B (35 :: t4)).extract 1 (B (35 :: t4)).size = B t4 := extract_tail (35 :: t4) 1
          generalize B (35 :: t4) = b5 at *
          obtain ⟨⟨z0, z1, z2, z3, z4, z5, z6, z7, z8⟩, ⟨f0, f1, f2, f3, f4, f5, f6, f7, f8⟩⟩ := cells9 KU.out
          obtain ⟨⟨y0, y1, y2, y3, y4, y5, y6, y7, y8⟩, ⟨g0, g1, g2, g3, g4, g5, g6, g7, g8⟩⟩ := cells9 KZ.out
          have hv := split_is HSP0.out HSP1.out HP.out HSP3.out
          rw [HU.out] at hv
          subst hv
          go_wp2
          exact bodyPost_ret (results_cell_row rfl _ _ w.heap.size 24 _ (0, 0) _ rfl (put9 (blk_far ((blk_far ((blk_far ((blk_far (KZ.out) (p := ⟨w.heap.size + 1, 3, none⟩) (by show w.heap.size ≠ w.heap.size + 1; omega) _)) (p := ⟨w.heap.size + 1, 7, none⟩) (by show w.heap.size ≠ w.heap.size + 1; omega) _)) (p := ⟨w.heap.size + 1, 4, none⟩) (by show w.heap.size ≠ w.heap.size + 1; omega) _)) (p := ⟨w.heap.size + 1, 8, none⟩) (by show w.heap.size ≠ w.heap.size + 1; omega) _)) Tryd.underlying24 rfl (by kernel_rfl)) rfl ⟨rfl, below9 (Below.setCell (p := ⟨w.heap.size + 1, 8, none⟩) ((Below.setCell (p := ⟨w.heap.size + 1, 4, none⟩) ((Below.setCell (p := ⟨w.heap.size + 1, 7, none⟩) ((Below.setCell (p := ⟨w.heap.size + 1, 3, none⟩) (HB.out) (by show w.heap.size ≤ w.heap.size + 1; omega) _)) (by show w.heap.size ≤ w.heap.size + 1; omega) _)) (by show w.heap.size ≤ w.heap.size + 1; omega) _)) (by show w.heap.size ≤ w.heap.size + 1; omega) _)⟩
      · have HSP3 := Lib.hid (show sp3 (35 :: t3) = ([], false, 35 :: t3) from by unfold sp3; rw [if_neg (by simp)])
        have e1 : ((B (35 :: t3)).toList != ([] : List UInt8)) = true := by rw [B_toList]; rfl
        have e0 : ((B (35 :: t3)).toList == ([] : List UInt8)) = false := by rw [B_toList]; rfl
        have e2 : (B (35 :: t3)).toList.isEmpty = false := by rw [B_toList]; rfl
        have e3 : (!(B (35 :: t3)).toList.isEmpty) = true := by rw [e2]; rfl
        have i0 := eq_true (show (0 : Int) < ((B (35 :: t3)).size : Int) by rw [B_size, List.length_cons]; omega)
        have i2 := eq_true (show 0 < (B (35 :: t3)).size by rw [B_size, List.length_cons]; omega)
        have i4 := eq_true (show (1 : Int) ≤ ((B (35 :: t3)).size : Int) by rw [B_size, List.length_cons]; omega)
        have i6 := eq_true (show 1 ≤ (B (35 :: t3)).size by rw [B_size, List.length_cons]; omega)
        have i1 := bt_at (B (35 :: t3)) 0
        have i3 : bt (B (35 :: t3)) 0 = 35 := bt_head 35 t3
        have i7 : ∀ h : 0 < (B (35 :: t3)).size, ((((B (35 :: t3))[0]'h).toNat : Int)) = 35 := fun h => (i1 h).trans i3
        have i5 : (B (35 :: t3)).extract 1 (B (35 :: t3)).size = B t3 := extract_tail (35 :: t3) 1
        generalize B (35 :: t3) = b3 at *
        obtain ⟨⟨z0, z1, z2, z3, z4, z5, z6, z7, z8⟩, ⟨f0, f1, f2, f3, f4, f5, f6, f7, f8⟩⟩ := cells9 KU.out
        obtain ⟨⟨y0, y1, y2, y3, y4, y5, y6, y7, y8⟩, ⟨g0, g1, g2, g3, g4, g5, g6, g7, g8⟩⟩ := cells9 KZ.out
        have hv := split_is HSP0.out HSP1.out HP.out HSP3.out
        rw [HU.out] at hv
        subst hv
        go_wp2
        exact bodyPost_ret (results_cell_row rfl _ _ w.heap.size 24 _ (0, 0) _ rfl (put9 (blk_far ((blk_far ((blk_far (KZ.out) (p := ⟨w.heap.size + 1, 2, none⟩) (by show w.heap.size ≠ w.heap.size + 1; omega) _)) (p := ⟨w.heap.size + 1, 4, none⟩) (by show w.heap.size ≠ w.heap.size + 1; omega) _)) (p := ⟨w.heap.size + 1, 8, none⟩) (by show w.heap.size ≠ w.heap.size + 1; omega) _)) Tryd.underlying24 rfl (by kernel_rfl)) rfl ⟨rfl, below9 (Below.setCell (p := ⟨w.heap.size + 1, 8, none⟩) ((Below.setCell (p := ⟨w.heap.size + 1, 4, none⟩) ((Below.setCell (p := ⟨w.heap.size + 1, 2, none⟩) (HB.out) (by show w.heap.size ≤ w.heap.size + 1; omega) _)) (by show w.heap.size ≤ w.heap.size + 1; omega) _)) (by show w.heap.size ≤ w.heap.size + 1; omega) _)⟩
  | cons c t =>
    have hlt : x.toNat < l.length := by rw [hd, List.length_cons] at hn; omega
    have h2 : l.drop x.toNat = c :: t := by rw [← hd, ← htd]; congr 1; omega
    have hc : bt (B l) x = (c.toNat : Int) := by
      have h3 := B_bt l x.toNat hlt
      have e : ((x.toNat : Nat) : Int) = x := by omega
      rw [e] at h3
      rw [h3]
      have h4 := h2
      rw [List.drop_eq_getElem_cons hlt] at h4
      injection h4 with h5
      rw [h5]
    have q1 : decide (x < ((B l).size : Int)) = true := decide_eq_true (by rw [B_size]; omega)
    have q2 := eq_true (show 0 ≤ x by omega)
    have q3 := eq_true (show x < ((B l).size : Int) by rw [B_size]; omega)
    have q4 := bt_at (B l) x
    have q5 := eq_true (show x ≤ ((B l).size : Int) by rw [B_size]; omega)
    by_cases h58 : c = 58
    · subst h58
      have q6 : bt (B l) x = 58 := hc
      obtain ⟨sch, hsch⟩ : ∃ q, l.takeWhile (notIn [58, 47, 63, 35]) = q := ⟨_, rfl⟩
      have HSP0 := Lib.hid (show sp0 l = (sch, true, t) from by unfold sp0; rw [hd, if_pos (show (58 :: t : Bs).head? = some 58 from rfl), hsch, List.tail_cons])
      obtain ⟨y, hy⟩ : ∃ y : Int, wrap64 (x + 1) = y := ⟨_, rfl⟩
      have hyv : y = x + 1 := by rw [← hy]; unfold wrap64; omega
      have q7 := eq_true (show 0 ≤ y by omega)
      have q8 := eq_true (show y ≤ ((B l).size : Int) by rw [B_size]; omega)
      have ex0 : (B l).extract 0 x.toNat = B sch := by rw [extract_head, ← hsch, ← htt]; congr 2; omega
      have ex1 : (B l).extract y.toNat (B l).size = B t := by
        have h3 : y.toNat = x.toNat + 1 := by omega
        rw [extract_tail, h3, ← List.drop_drop, h2]
        rfl
      have hlt2 : t.length < 4000000000 := by rw [hd, List.length_cons] at hn; omega
      clear hsp hd htt htd hn hlt h2 hc hyv hx hsch
      generalize B l = s0 at *
      by_cases h1 : 1 < t.length
      · have m0 : decide ((1 : Int) < ((B t).size : Int)) = true := decide_eq_true (by rw [B_size]; omega)
        have m1 : decide (1 < (B t).size) = true := decide_eq_true (by rw [B_size]; omega)
        have m2 := eq_true (show (2 : Int) ≤ ((B t).size : Int) by rw [B_size]; omega)
        have m3 := eq_true (show 2 ≤ (B t).size by rw [B_size]; omega)
        by_cases hp : hasPrefix t [47, 47] = true
        · have m4 : (((B t).extract 0 2).toList == ([47, 47] : List UInt8)) = true := by rw [extract_head, B_toList]; exact (take2 t).1 hp
          have m5 : (B t).extract 2 (B t).size = B (t.drop 2) := extract_tail t 2
          have hld : (t.drop 2).length ≤ t.length := by rw [List.length_drop]; omega
          obtain ⟨⟨z0, z1, z2, z3, z4, z5, z6, z7, z8⟩, ⟨f0, f1, f2, f3, f4, f5, f6, f7, f8⟩⟩ := cells9 KU.out
          go_wp2_with fail
          clear z0 z1 z2 z3 z4 z5 z6 z7 z8 f0 f1 f2 f3 f4 f5 f6 f7 f8
          clear m0 m1 m3 m4 m5
          refine (first_calls [47, 63, 35] (t.drop 2) _ (by omega) (by decide)).mono ?_
          rintro z w9 ⟨rfl, h⟩
          obtain ⟨ku, kz, hb⟩ := after9 (blk_put (cs' := #[.string (B sch), .string (⟨#[]⟩ : ByteArray), .string (⟨#[]⟩ : ByteArray), .string (⟨#[]⟩ : ByteArray), .string (⟨#[]⟩ : ByteArray), .bool true, .bool false, .bool false, .bool false]) ((blk_put (cs' := #[.string (B sch), .string (⟨#[]⟩ : ByteArray), .string (⟨#[]⟩ : ByteArray), .string (⟨#[]⟩ : ByteArray), .string (⟨#[]⟩ : ByteArray), .bool false, .bool false, .bool false, .bool false]) (KU.out) 0 _ rfl)) 5 _ rfl) (blk_far ((blk_far (KZ.out) (p := ⟨w.heap.size + 1, 0, none⟩) (by show w.heap.size ≠ w.heap.size + 1; omega) _)) (p := ⟨w.heap.size + 1, 5, none⟩) (by show w.heap.size ≠ w.heap.size + 1; omega) _) (Below.setCell (p := ⟨w.heap.size + 1, 5, none⟩) ((Below.setCell (p := ⟨w.heap.size + 1, 0, none⟩) (HB.out) (by show w.heap.size ≤ w.heap.size + 1; omega) _)) (by show w.heap.size ≤ w.heap.size + 1; omega) _) h
          clear h KU KZ HB
          have KZ := Aside0.mk kz
          have KU := Aside0.mk ku
          have HB := Aside0.mk hb
          clear kz ku hb
          have hn2 := tw_sum [47, 63, 35] (t.drop 2)
          have ht2 := tw_take [47, 63, 35] (t.drop 2)
          have hd2 := tw_drop [47, 63, 35] (t.drop 2)
          obtain ⟨x2, hx2⟩ : ∃ x : Int, (((t.drop 2).takeWhile (notIn [47, 63, 35])).length : Int) = x := ⟨_, rfl⟩
          rw [hx2]
          obtain ⟨host, hhost⟩ : ∃ q, (t.drop 2).takeWhile (notIn [47, 63, 35]) = q := ⟨_, rfl⟩
          obtain ⟨s2, hs2⟩ : ∃ q, (t.drop 2).dropWhile (notIn [47, 63, 35]) = q := ⟨_, rfl⟩
          have HSP1 := Lib.hid (show sp1 t = (host, true, s2) from by unfold sp1; rw [if_pos hp, hhost, hs2])
          rw [hhost, hs2] at hn2
          rw [hhost] at ht2 hd2 hx2
          rw [hs2] at hd2
          clear hhost hs2
          have hdl : (t.drop 2).length = t.length - 2 := List.length_drop
          obtain ⟨y2, hy2⟩ : ∃ y : Int, wrap64 (x2 + 2) = y := ⟨_, rfl⟩
          have hy2v : y2 = x2 + 2 := by rw [← hy2]; unfold wrap64; omega
          have hyn : y2.toNat = host.length + 2 := by omega
          have ec2 : (B t).extract 2 y2.toNat = B host := by rw [B_extract, hyn, List.drop_take, Nat.add_sub_cancel, ht2]
          have ed2 : (B t).extract y2.toNat (B t).size = B s2 := by rw [extract_tail, hyn, Nat.add_comm, ← List.drop_drop, hd2]
          have hl2 : s2.length ≤ t.length := by omega
          have r5 := eq_true (show 2 ≤ y2 by omega)
          have r6 := eq_true (show y2 ≤ ((B t).size : Int) by rw [B_size]; omega)
          have r7 := eq_true (show 0 ≤ y2 by omega)
          clear hn2 ht2 hd2 hy2v hyn hdl m2
          generalize B t = b1 at *
          obtain ⟨⟨z0, z1, z2, z3, z4, z5, z6, z7, z8⟩, ⟨f0, f1, f2, f3, f4, f5, f6, f7, f8⟩⟩ := cells9 KU.out
          go_wp2_with fail
          clear z0 z1 z2 z3 z4 z5 z6 z7 z8 f0 f1 f2 f3 f4 f5 f6 f7 f8
          refine (first_calls [63, 35] s2 _ (by omega) (by decide)).mono ?_
          rintro z w10 ⟨rfl, h⟩
          obtain ⟨ku, kz, hb⟩ := after9 (blk_put (cs' := #[.string (B sch), .string (B host), .string (⟨#[]⟩ : ByteArray), .string (⟨#[]⟩ : ByteArray), .string (⟨#[]⟩ : ByteArray), .bool true, .bool true, .bool false, .bool false]) ((blk_put (cs' := #[.string (B sch), .string (B host), .string (⟨#[]⟩ : ByteArray), .string (⟨#[]⟩ : ByteArray), .string (⟨#[]⟩ : ByteArray), .bool true, .bool false, .bool false, .bool false]) (KU.out) 1 _ rfl)) 6 _ rfl) (blk_far ((blk_far (KZ.out) (p := ⟨w.heap.size + 1, 1, none⟩) (by show w.heap.size ≠ w.heap.size + 1; omega) _)) (p := ⟨w.heap.size + 1, 6, none⟩) (by show w.heap.size ≠ w.heap.size + 1; omega) _) (Below.setCell (p := ⟨w.heap.size + 1, 6, none⟩) ((Below.setCell (p := ⟨w.heap.size + 1, 1, none⟩) (HB.out) (by show w.heap.size ≤ w.heap.size + 1; omega) _)) (by show w.heap.size ≤ w.heap.size + 1; omega) _) h
          clear h KU KZ HB
          have KZ := Aside0.mk kz
          have KU := Aside0.mk ku
          have HB := Aside0.mk hb
          clear kz ku hb
          clear ec2 ed2 r5 r6 r7 hy2 hx2
          have hn3 := tw_sum [63, 35] s2
          have ht3 := tw_take [63, 35] s2
          have hd3 := tw_drop [63, 35] s2
          have hq3 := head3 s2
          have hz3 : (B s2).size = s2.length := B_size s2
          obtain ⟨x3, hx3⟩ : ∃ x : Int, ((s2.takeWhile (notIn [63, 35])).length : Int) = x := ⟨_, rfl⟩
          rw [hx3]
          obtain ⟨path, hpath⟩ : ∃ q, s2.takeWhile (notIn [63, 35]) = q := ⟨_, rfl⟩
          obtain ⟨s3, hs3⟩ : ∃ q, s2.dropWhile (notIn [63, 35]) = q := ⟨_, rfl⟩
          rw [hpath, hs3] at hn3
          rw [hpath] at ht3 hd3 hx3
          rw [hs3] at hd3 hq3
          have HP := Lib.hid (And.intro hpath hs3)
          clear hpath hs3
          have ea : (B s2).extract 0 x3.toNat = B path := by rw [extract_head, ← hx3, Int.toNat_natCast, ht3]
          have eb : (B s2).extract x3.toNat (B s2).size = B s3 := by rw [extract_tail, ← hx3, Int.toNat_natCast, hd3]
          have r0 := eq_true (show 0 ≤ x3 by omega)
          have r1 := eq_true (show x3 ≤ ((B s2).size : Int) by rw [hz3]; omega)
          have hl3 : s3.length ≤ s2.length := by omega
          clear hn3 ht3 hd3 hx3 hz3
          generalize B s2 = b2 at *
          rcases hq3 with rfl | ⟨t3, rfl | rfl⟩
          · have HSP3 := Lib.hid (show sp3 [] = ([], false, []) from rfl)
            have e0 : ((B []).toList == ([] : List UInt8)) = true := by rw [B_toList]; rfl
            have e1 : ((B []).toList != ([] : List UInt8)) = false := by rw [B_toList]; rfl
            have e2 : (B []).toList.isEmpty = true := by rw [B_toList]; rfl
            have e3 : (!(B []).toList.isEmpty) = false := by rw [e2]; rfl
            generalize B [] = b3 at e0 e1 e2 e3 eb ⊢
            obtain ⟨⟨z0, z1, z2, z3, z4, z5, z6, z7, z8⟩, ⟨f0, f1, f2, f3, f4, f5, f6, f7, f8⟩⟩ := cells9 KU.out
            obtain ⟨⟨y0, y1, y2, y3, y4, y5, y6, y7, y8⟩, ⟨g0, g1, g2, g3, g4, g5, g6, g7, g8⟩⟩ := cells9 KZ.out
            have hv := split_is HSP0.out HSP1.out HP.out HSP3.out
            rw [HU.out] at hv
            subst hv
            go_wp2
            exact bodyPost_ret (results_cell_row rfl _ _ w.heap.size 24 _ (0, 0) _ rfl (put9 (blk_far (KZ.out) (p := ⟨w.heap.size + 1, 2, none⟩) (by show w.heap.size ≠ w.heap.size + 1; omega) _)) Tryd.underlying24 rfl (by kernel_rfl)) rfl ⟨rfl, below9 (Below.setCell (p := ⟨w.heap.size + 1, 2, none⟩) (HB.out) (by show w.heap.size ≤ w.heap.size + 1; omega) _)⟩
          · have hs4 := tw_sum [35] t3
            have hq4 := head4 t3
            have ht4 := tw_take [35] t3
            have hd4 := tw_drop [35] t3
            have e1 : ((B (63 :: t3)).toList != ([] : List UInt8)) = true := by rw [B_toList]; rfl
            have e0 : ((B (63 :: t3)).toList == ([] : List UInt8)) = false := by rw [B_toList]; rfl
            have e2 : (B (63 :: t3)).toList.isEmpty = false := by rw [B_toList]; rfl
            have e3 : (!(B (63 :: t3)).toList.isEmpty) = true := by rw [e2]; rfl
            have i0 := eq_true (show (0 : Int) < ((B (63 :: t3)).size : Int) by rw [B_size, List.length_cons]; omega)
            have i2 := eq_true (show 0 < (B (63 :: t3)).size by rw [B_size, List.length_cons]; omega)
            have i1 := bt_at (B (63 :: t3)) 0
            have i3 : bt (B (63 :: t3)) 0 = 63 := bt_head 63 t3
            have i7 : ∀ h : 0 < (B (63 :: t3)).size, ((((B (63 :: t3))[0]'h).toNat : Int)) = 63 := fun h => (i1 h).trans i3
            obtain ⟨⟨z0, z1, z2, z3, z4, z5, z6, z7, z8⟩, ⟨f0, f1, f2, f3, f4, f5, f6, f7, f8⟩⟩ := cells9 KU.out
            go_wp2_with fail
            clear z0 z1 z2 z3 z4 z5 z6 z7 z8 f0 f1 f2 f3 f4 f5 f6 f7 f8
            clear e0 e1 e2 e3
            refine (first_calls [35] (63 :: t3) _ (by omega) (by decide)).mono ?_
            rintro z w11 ⟨rfl, h⟩
            obtain ⟨ku, kz, hb⟩ := after9 (blk_put (cs' := #[.string (B sch), .string (B host), .string (B path), .string (⟨#[]⟩ : ByteArray), .string (⟨#[]⟩ : ByteArray), .bool true, .bool true, .bool false, .bool false]) (KU.out) 2 _ rfl) (blk_far (KZ.out) (p := ⟨w.heap.size + 1, 2, none⟩) (by show w.heap.size ≠ w.heap.size + 1; omega) _) (Below.setCell (p := ⟨w.heap.size + 1, 2, none⟩) (HB.out) (by show w.heap.size ≤ w.heap.size + 1; omega) _) h
            clear h KU KZ HB
            have KZ := Aside0.mk kz
            have KU := Aside0.mk ku
            have HB := Aside0.mk hb
            clear kz ku hb
            have htw : (63 :: t3).takeWhile (notIn [35]) = 63 :: t3.takeWhile (notIn [35]) := rfl
            rw [htw, List.length_cons]
            obtain ⟨x4, hx4⟩ : ∃ x : Int, (((t3.takeWhile (notIn [35])).length + 1 : Nat) : Int) = x := ⟨_, rfl⟩
            rw [hx4]
            obtain ⟨query, hquery⟩ : ∃ q, t3.takeWhile (notIn [35]) = q := ⟨_, rfl⟩
            obtain ⟨s4, hs4e⟩ : ∃ q, t3.dropWhile (notIn [35]) = q := ⟨_, rfl⟩
            have HSP3 := Lib.hid (show sp3 (63 :: t3) = (query, true, s4) from by unfold sp3; rw [if_pos (show (63 :: t3 : Bs).head? = some 63 from rfl), List.tail_cons, hquery, hs4e])
            rw [hquery, hs4e] at hs4
            rw [hquery] at ht4 hd4 hx4
            rw [hs4e] at hd4 hq4
            clear hquery hs4e htw
            have hz4 : (B (63 :: t3)).size = t3.length + 1 := by rw [B_size, List.length_cons]
            have ec : (B (63 :: t3)).extract 1 x4.toNat = B query := by rw [B_extract, ← hx4, Int.toNat_natCast]; simp only [List.take_succ_cons, List.drop_succ_cons, List.drop_zero]; rw [ht4]
            have ed : (B (63 :: t3)).extract x4.toNat (B (63 :: t3)).size = B s4 := by rw [extract_tail, ← hx4, Int.toNat_natCast, List.drop_succ_cons, hd4]
            have r2 := eq_true (show 1 ≤ x4 by omega)
            have r3 := eq_true (show x4 ≤ ((B (63 :: t3)).size : Int) by rw [hz4]; omega)
            have r4 := eq_true (show 0 ≤ x4 by omega)
            clear hs4 ht4 hd4 hx4 hz4
            generalize B (63 :: t3) = b4 at *
            rcases hq4 with rfl | ⟨t4, rfl⟩
            · have e0 : ((B []).toList == ([] : List UInt8)) = true := by rw [B_toList]; rfl
              have e1 : ((B []).toList != ([] : List UInt8)) = false := by rw [B_toList]; rfl
              have e2 : (B []).toList.isEmpty = true := by rw [B_toList]; rfl
              have e3 : (!(B []).toList.isEmpty) = false := by rw [e2]; rfl
              generalize B [] = b5 at e0 e1 e2 e3 ed ⊢
              obtain ⟨⟨z0, z1, z2, z3, z4, z5, z6, z7, z8⟩, ⟨f0, f1, f2, f3, f4, f5, f6, f7, f8⟩⟩ := cells9 KU.out
              obtain ⟨⟨y0, y1, y2, y3, y4, y5, y6, y7, y8⟩, ⟨g0, g1, g2, g3, g4, g5, g6, g7, g8⟩⟩ := cells9 KZ.out
              have hv := split_is HSP0.out HSP1.out HP.out HSP3.out
              rw [HU.out] at hv
              subst hv
              go_wp2
              exact bodyPost_ret (results_cell_row rfl _ _ w.heap.size 24 _ (0, 0) _ rfl (put9 (blk_far ((blk_far (KZ.out) (p := ⟨w.heap.size + 1, 3, none⟩) (by show w.heap.size ≠ w.heap.size + 1; omega) _)) (p := ⟨w.heap.size + 1, 7, none⟩) (by show w.heap.size ≠ w.heap.size + 1; omega) _)) Tryd.underlying24 rfl (by kernel_rfl)) rfl ⟨rfl, below9 (Below.setCell (p := ⟨w.heap.size + 1, 7, none⟩) ((Below.setCell (p := ⟨w.heap.size + 1, 3, none⟩) (HB.out) (by show w.heap.size ≤ w.heap.size + 1; omega) _)) (by show w.heap.size ≤ w.heap.size + 1; omega) _)⟩
            · have e1 : ((B (35 :: t4)).toList != ([] : List UInt8)) = true := by rw [B_toList]; rfl
              have e0 : ((B (35 :: t4)).toList == ([] : List UInt8)) = false := by rw [B_toList]; rfl
              have e2 : (B (35 :: t4)).toList.isEmpty = false := by rw [B_toList]; rfl
              have e3 : (!(B (35 :: t4)).toList.isEmpty) = true := by rw [e2]; rfl
              have i0 := eq_true (show (1 : Int) ≤ ((B (35 :: t4)).size : Int) by rw [B_size, List.length_cons]; omega)
              have i2 := eq_true (show 1 ≤ (B (35 :: t4)).size by rw [B_size, List.length_cons]; omega)
              have i1 : (B (35 :: t4)).extract 1 (B (35 :: t4)).size = B t4 := extract_tail (35 :: t4) 1
              generalize B (35 :: t4) = b5 at *
              obtain ⟨⟨z0, z1, z2, z3, z4, z5, z6, z7, z8⟩, ⟨f0, f1, f2, f3, f4, f5, f6, f7, f8⟩⟩ := cells9 KU.out
              obtain ⟨⟨y0, y1, y2, y3, y4, y5, y6, y7, y8⟩, ⟨g0, g1, g2, g3, g4, g5, g6, g7, g8⟩⟩ := cells9 KZ.out
              have hv := split_is HSP0.out HSP1.out HP.out HSP3.out
              rw [HU.out] at hv
              subst hv
              go_wp2
              exact bodyPost_ret (results_cell_row rfl _ _ w.heap.size 24 _ (0, 0) _ rfl (put9 (blk_far ((blk_far ((blk_far ((blk_far (KZ.out) (p := ⟨w.heap.size + 1, 3, none⟩) (by show w.heap.size ≠ w.heap.size + 1; omega) _)) (p := ⟨w.heap.size + 1, 7, none⟩) (by show w.heap.size ≠ w.heap.size + 1; omega) _)) (p := ⟨w.heap.size + 1, 4, none⟩) (by show w.heap.size ≠ w.heap.size + 1; omega) _)) (p := ⟨w.heap.size + 1, 8, none⟩) (by show w.heap.size ≠ w.heap.size + 1; omega) _)) Tryd.underlying24 rfl (by kernel_rfl)) rfl ⟨rfl, below9 (Below.setCell (p := ⟨w.heap.size + 1, 8, none⟩) ((Below.setCell (p := ⟨w.heap.size + 1, 4, none⟩) ((Below.setCell (p := ⟨w.heap.size + 1, 7, none⟩) ((Below.setCell (p := ⟨w.heap.size + 1, 3, none⟩) (HB.out) (by show w.heap.size ≤ w.heap.size + 1; omega) _)) (by show w.heap.size ≤ w.heap.size + 1; omega) _)) (by show w.heap.size ≤ w.heap.size + 1; omega) _)) (by show w.heap.size ≤ w.heap.size + 1; omega) _)⟩
          · have HSP3 := Lib.hid (show sp3 (35 :: t3) = ([], false, 35 :: t3) from by unfold sp3; rw [if_neg (by simp)])
            have e1 : ((B (35 :: t3)).toList != ([] : List UInt8)) = true := by rw [B_toList]; rfl
            have e0 : ((B (35 :: t3)).toList == ([] : List UInt8)) = false := by rw [B_toList]; rfl
            have e2 : (B (35 :: t3)).toList.isEmpty = false := by rw [B_toList]; rfl
            have e3 : (!(B (35 :: t3)).toList.isEmpty) = true := by rw [e2]; rfl
            have i0 := eq_true (show (0 : Int) < ((B (35 :: t3)).size : Int) by rw [B_size, List.length_cons]; omega)
            have i2 := eq_true (show 0 < (B (35 :: t3)).size by rw [B_size, List.length_cons]; omega)
            have i4 := eq_true (show (1 : Int) ≤ ((B (35 :: t3)).size : Int) by rw [B_size, List.length_cons]; omega)
            have i6 := eq_true (show 1 ≤ (B (35 :: t3)).size by rw [B_size, List.length_cons]; omega)
            have i1 := bt_at (B (35 :: t3)) 0
            have i3 : bt (B (35 :: t3)) 0 = 35 := bt_head 35 t3
            have i7 : ∀ h : 0 < (B (35 :: t3)).size, ((((B (35 :: t3))[0]'h).toNat : Int)) = 35 := fun h => (i1 h).trans i3
            have i5 : (B (35 :: t3)).extract 1 (B (35 :: t3)).size = B t3 := extract_tail (35 :: t3) 1
            generalize B (35 :: t3) = b3 at *
            obtain ⟨⟨z0, z1, z2, z3, z4, z5, z6, z7, z8⟩, ⟨f0, f1, f2, f3, f4, f5, f6, f7, f8⟩⟩ := cells9 KU.out
            obtain ⟨⟨y0, y1, y2, y3, y4, y5, y6, y7, y8⟩, ⟨g0, g1, g2, g3, g4, g5, g6, g7, g8⟩⟩ := cells9 KZ.out
            have hv := split_is HSP0.out HSP1.out HP.out HSP3.out
            rw [HU.out] at hv
            subst hv
            go_wp2
            exact bodyPost_ret (results_cell_row rfl _ _ w.heap.size 24 _ (0, 0) _ rfl (put9 (blk_far ((blk_far ((blk_far (KZ.out) (p := ⟨w.heap.size + 1, 2, none⟩) (by show w.heap.size ≠ w.heap.size + 1; omega) _)) (p := ⟨w.heap.size + 1, 4, none⟩) (by show w.heap.size ≠ w.heap.size + 1; omega) _)) (p := ⟨w.heap.size + 1, 8, none⟩) (by show w.heap.size ≠ w.heap.size + 1; omega) _)) Tryd.underlying24 rfl (by kernel_rfl)) rfl ⟨rfl, below9 (Below.setCell (p := ⟨w.heap.size + 1, 8, none⟩) ((Below.setCell (p := ⟨w.heap.size + 1, 4, none⟩) ((Below.setCell (p := ⟨w.heap.size + 1, 2, none⟩) (HB.out) (by show w.heap.size ≤ w.heap.size + 1; omega) _)) (by show w.heap.size ≤ w.heap.size + 1; omega) _)) (by show w.heap.size ≤ w.heap.size + 1; omega) _)⟩
        · have m4 : (((B t).extract 0 2).toList == ([47, 47] : List UInt8)) = false := by rw [extract_head, B_toList]; exact (take2 t).2 hp
          have HSP1 := Lib.hid (show sp1 t = ([], false, t) from by unfold sp1; rw [if_neg hp])
          obtain ⟨⟨z0, z1, z2, z3, z4, z5, z6, z7, z8⟩, ⟨f0, f1, f2, f3, f4, f5, f6, f7, f8⟩⟩ := cells9 KU.out
          go_wp2_with fail
          clear z0 z1 z2 z3 z4 z5 z6 z7 z8 f0 f1 f2 f3 f4 f5 f6 f7 f8
          clear m0 m1 m2 m3 m4 hp h1
          refine (first_calls [63, 35] t _ (by omega) (by decide)).mono ?_
          rintro z w12 ⟨rfl, h⟩
          obtain ⟨ku, kz, hb⟩ := after9 (blk_put (cs' := #[.string (B sch), .string (⟨#[]⟩ : ByteArray), .string (⟨#[]⟩ : ByteArray), .string (⟨#[]⟩ : ByteArray), .string (⟨#[]⟩ : ByteArray), .bool true, .bool false, .bool false, .bool false]) ((blk_put (cs' := #[.string (B sch), .string (⟨#[]⟩ : ByteArray), .string (⟨#[]⟩ : ByteArray), .string (⟨#[]⟩ : ByteArray), .string (⟨#[]⟩ : ByteArray), .bool false, .bool false, .bool false, .bool false]) (KU.out) 0 _ rfl)) 5 _ rfl) (blk_far ((blk_far (KZ.out) (p := ⟨w.heap.size + 1, 0, none⟩) (by show w.heap.size ≠ w.heap.size + 1; omega) _)) (p := ⟨w.heap.size + 1, 5, none⟩) (by show w.heap.size ≠ w.heap.size + 1; omega) _) (Below.setCell (p := ⟨w.heap.size + 1, 5, none⟩) ((Below.setCell (p := ⟨w.heap.size + 1, 0, none⟩) (HB.out) (by show w.heap.size ≤ w.heap.size + 1; omega) _)) (by show w.heap.size ≤ w.heap.size + 1; omega) _) h
          clear h KU KZ HB
          have KZ := Aside0.mk kz
          have KU := Aside0.mk ku
          have HB := Aside0.mk hb
          clear kz ku hb
          obtain ⟨s2, hs2⟩ : ∃ q, q = t := ⟨_, rfl⟩
          subst hs2
          have hl2 : s2.length < 4000000000 := by omega
          have hn3 := tw_sum [63, 35] s2
          have ht3 := tw_take [63, 35] s2
          have hd3 := tw_drop [63, 35] s2
          have hq3 := head3 s2
          have hz3 : (B s2).size = s2.length := B_size s2
          obtain ⟨x3, hx3⟩ : ∃ x : Int, ((s2.takeWhile (notIn [63, 35])).length : Int) = x := ⟨_, rfl⟩
          rw [hx3]
          obtain ⟨path, hpath⟩ : ∃ q, s2.takeWhile (notIn [63, 35]) = q := ⟨_, rfl⟩
          obtain ⟨s3, hs3⟩ : ∃ q, s2.dropWhile (notIn [63, 35]) = q := ⟨_, rfl⟩
          rw [hpath, hs3] at hn3
          rw [hpath] at ht3 hd3 hx3
          rw [hs3] at hd3 hq3
          have HP := Lib.hid (And.intro hpath hs3)
          clear hpath hs3
          have ea : (B s2).extract 0 x3.toNat = B path := by rw [extract_head, ← hx3, Int.toNat_natCast, ht3]
          have eb : (B s2).extract x3.toNat (B s2).size = B s3 := by rw [extract_tail, ← hx3, Int.toNat_natCast, hd3]
          have r0 := eq_true (show 0 ≤ x3 by omega)
          have r1 := eq_true (show x3 ≤ ((B s2).size : Int) by rw [hz3]; omega)
          have hl3 : s3.length ≤ s2.length := by omega
          clear hn3 ht3 hd3 hx3 hz3
          generalize B s2 = b2 at *
          rcases hq3 with rfl | ⟨t3, rfl | rfl⟩
          · have HSP3 := Lib.hid (show sp3 [] = ([], false, []) from rfl)
            have e0 : ((B []).toList == ([] : List UInt8)) = true := by rw [B_toList]; rfl
            have e1 : ((B []).toList != ([] : List UInt8)) = false := by rw [B_toList]; rfl
            have e2 : (B []).toList.isEmpty = true := by rw [B_toList]; rfl
            have e3 : (!(B []).toList.isEmpty) = false := by rw [e2]; rfl
            generalize B [] = b3 at e0 e1 e2 e3 eb ⊢
            obtain ⟨⟨z0, z1, z2, z3, z4, z5, z6, z7, z8⟩, ⟨f0, f1, f2, f3, f4, f5, f6, f7, f8⟩⟩ := cells9 KU.out
            obtain ⟨⟨y0, y1, y2, y3, y4, y5, y6, y7, y8⟩, ⟨g0, g1, g2, g3, g4, g5, g6, g7, g8⟩⟩ := cells9 KZ.out
            have hv := split_is HSP0.out HSP1.out HP.out HSP3.out
            rw [HU.out] at hv
            subst hv
            go_wp2
            exact bodyPost_ret (results_cell_row rfl _ _ w.heap.size 24 _ (0, 0) _ rfl (put9 (blk_far (KZ.out) (p := ⟨w.heap.size + 1, 2, none⟩) (by show w.heap.size ≠ w.heap.size + 1; omega) _)) Tryd.underlying24 rfl (by kernel_rfl)) rfl ⟨rfl, below9 (Below.setCell (p := ⟨w.heap.size + 1, 2, none⟩) (HB.out) (by show w.heap.size ≤ w.heap.size + 1; omega) _)⟩
          · have hs4 := tw_sum [35] t3
            have hq4 := head4 t3
            have ht4 := tw_take [35] t3
            have hd4 := tw_drop [35] t3
            have e1 : ((B (63 :: t3)).toList != ([] : List UInt8)) = true := by rw [B_toList]; rfl
            have e0 : ((B (63 :: t3)).toList == ([] : List UInt8)) = false := by rw [B_toList]; rfl
            have e2 : (B (63 :: t3)).toList.isEmpty = false := by rw [B_toList]; rfl
            have e3 : (!(B (63 :: t3)).toList.isEmpty) = true := by rw [e2]; rfl
            have i0 := eq_true (show (0 : Int) < ((B (63 :: t3)).size : Int) by rw [B_size, List.length_cons]; omega)
            have i2 := eq_true (show 0 < (B (63 :: t3)).size by rw [B_size, List.length_cons]; omega)
            have i1 := bt_at (B (63 :: t3)) 0
            have i3 : bt (B (63 :: t3)) 0 = 63 := bt_head 63 t3
            have i7 : ∀ h : 0 < (B (63 :: t3)).size, ((((B (63 :: t3))[0]'h).toNat : Int)) = 63 := fun h => (i1 h).trans i3
            obtain ⟨⟨z0, z1, z2, z3, z4, z5, z6, z7, z8⟩, ⟨f0, f1, f2, f3, f4, f5, f6, f7, f8⟩⟩ := cells9 KU.out
            go_wp2_with fail
            clear z0 z1 z2 z3 z4 z5 z6 z7 z8 f0 f1 f2 f3 f4 f5 f6 f7 f8
            clear e0 e1 e2 e3
            refine (first_calls [35] (63 :: t3) _ (by omega) (by decide)).mono ?_
            rintro z w13 ⟨rfl, h⟩
            obtain ⟨ku, kz, hb⟩ := after9 (blk_put (cs' := #[.string (B sch), .string (⟨#[]⟩ : ByteArray), .string (B path), .string (⟨#[]⟩ : ByteArray), .string (⟨#[]⟩ : ByteArray), .bool true, .bool false, .bool false, .bool false]) (KU.out) 2 _ rfl) (blk_far (KZ.out) (p := ⟨w.heap.size + 1, 2, none⟩) (by show w.heap.size ≠ w.heap.size + 1; omega) _) (Below.setCell (p := ⟨w.heap.size + 1, 2, none⟩) (HB.out) (by show w.heap.size ≤ w.heap.size + 1; omega) _) h
            clear h KU KZ HB
            have KZ := Aside0.mk kz
            have KU := Aside0.mk ku
            have HB := Aside0.mk hb
            clear kz ku hb
            have htw : (63 :: t3).takeWhile (notIn [35]) = 63 :: t3.takeWhile (notIn [35]) := rfl
            rw [htw, List.length_cons]
            obtain ⟨x4, hx4⟩ : ∃ x : Int, (((t3.takeWhile (notIn [35])).length + 1 : Nat) : Int) = x := ⟨_, rfl⟩
            rw [hx4]
            obtain ⟨query, hquery⟩ : ∃ q, t3.takeWhile (notIn [35]) = q := ⟨_, rfl⟩
            obtain ⟨s4, hs4e⟩ : ∃ q, t3.dropWhile (notIn [35]) = q := ⟨_, rfl⟩
            have HSP3 := Lib.hid (show sp3 (63 :: t3) = (query, true, s4) from by unfold sp3; rw [if_pos (show (63 :: t3 : Bs).head? = some 63 from rfl), List.tail_cons, hquery, hs4e])
            rw [hquery, hs4e] at hs4
            rw [hquery] at ht4 hd4 hx4
            rw [hs4e] at hd4 hq4
            clear hquery hs4e htw
            have hz4 : (B (63 :: t3)).size = t3.length + 1 := by rw [B_size, List.length_cons]
            have ec : (B (63 :: t3)).extract 1 x4.toNat = B query := by rw [B_extract, ← hx4, Int.toNat_natCast]; simp only [List.take_succ_cons, List.drop_succ_cons, List.drop_zero]; rw [ht4]
            have ed : (B (63 :: t3)).extract x4.toNat (B (63 :: t3)).size = B s4 := by rw [extract_tail, ← hx4, Int.toNat_natCast, List.drop_succ_cons, hd4]
            have r2 := eq_true (show 1 ≤ x4 by omega)
            have r3 := eq_true (show x4 ≤ ((B (63 :: t3)).size : Int) by rw [hz4]; omega)
            have r4 := eq_true (show 0 ≤ x4 by omega)
            clear hs4 ht4 hd4 hx4 hz4
            generalize B (63 :: t3) = b4 at *
            rcases hq4 with rfl | ⟨t4, rfl⟩
            · have e0 : ((B []).toList == ([] : List UInt8)) = true := by rw [B_toList]; rfl
              have e1 : ((B []).toList != ([] : List UInt8)) = false := by rw [B_toList]; rfl
              have e2 : (B []).toList.isEmpty = true := by rw [B_toList]; rfl
              have e3 : (!(B []).toList.isEmpty) = false := by rw [e2]; rfl
              generalize B [] = b5 at e0 e1 e2 e3 ed ⊢
              obtain ⟨⟨z0, z1, z2, z3, z4, z5, z6, z7, z8⟩, ⟨f0, f1, f2, f3, f4, f5, f6, f7, f8⟩⟩ := cells9 KU.out
              obtain ⟨⟨y0, y1, y2, y3, y4, y5, y6, y7, y8⟩, ⟨g0, g1, g2, g3, g4, g5, g6, g7, g8⟩⟩ := cells9 KZ.out
              have hv := split_is HSP0.out HSP1.out HP.out HSP3.out
              rw [HU.out] at hv
              subst hv
              go_wp2
              exact bodyPost_ret (results_cell_row rfl _ _ w.heap.size 24 _ (0, 0) _ rfl (put9 (blk_far ((blk_far (KZ.out) (p := ⟨w.heap.size + 1, 3, none⟩) (by show w.heap.size ≠ w.heap.size + 1; omega) _)) (p := ⟨w.heap.size + 1, 7, none⟩) (by show w.heap.size ≠ w.heap.size + 1; omega) _)) Tryd.underlying24 rfl (by kernel_rfl)) rfl ⟨rfl, below9 (Below.setCell (p := ⟨w.heap.size + 1, 7, none⟩) ((Below.setCell (p := ⟨w.heap.size + 1, 3, none⟩) (HB.out) (by show w.heap.size ≤ w.heap.size + 1; omega) _)) (by show w.heap.size ≤ w.heap.size + 1; omega) _)⟩
            · have e1 : ((B (35 :: t4)).toList != ([] : List UInt8)) = true := by rw [B_toList]; rfl
              have e0 : ((B (35 :: t4)).toList == ([] : List UInt8)) = false := by rw [B_toList]; rfl
              have e2 : (B (35 :: t4)).toList.isEmpty = false := by rw [B_toList]; rfl
              have e3 : (!(B (35 :: t4)).toList.isEmpty) = true := by rw [e2]; rfl
              have i0 := eq_true (show (1 : Int) ≤ ((B (35 :: t4)).size : Int) by rw [B_size, List.length_cons]; omega)
              have i2 := eq_true (show 1 ≤ (B (35 :: t4)).size by rw [B_size, List.length_cons]; omega)
              have i1 : (B (35 :: t4)).extract 1 (B (35 :: t4)).size = B t4 := extract_tail (35 :: t4) 1
              generalize B (35 :: t4) = b5 at *
              obtain ⟨⟨z0, z1, z2, z3, z4, z5, z6, z7, z8⟩, ⟨f0, f1, f2, f3, f4, f5, f6, f7, f8⟩⟩ := cells9 KU.out
              obtain ⟨⟨y0, y1, y2, y3, y4, y5, y6, y7, y8⟩, ⟨g0, g1, g2, g3, g4, g5, g6, g7, g8⟩⟩ := cells9 KZ.out
              have hv := split_is HSP0.out HSP1.out HP.out HSP3.out
              rw [HU.out] at hv
              subst hv
              go_wp2
              exact bodyPost_ret (results_cell_row rfl _ _ w.heap.size 24 _ (0, 0) _ rfl (put9 (blk_far ((blk_far ((blk_far ((blk_far (KZ.out) (p := ⟨w.heap.size + 1, 3, none⟩) (by show w.heap.size ≠ w.heap.size + 1; omega) _)) (p := ⟨w.heap.size + 1, 7, none⟩) (by show w.heap.size ≠ w.heap.size + 1; omega) _)) (p := ⟨w.heap.size + 1, 4, none⟩) (by show w.heap.size ≠ w.heap.size + 1; omega) _)) (p := ⟨w.heap.size + 1, 8, none⟩) (by show w.heap.size ≠ w.heap.size + 1; omega) _)) Tryd.underlying24 rfl (by kernel_rfl)) rfl ⟨rfl, below9 (Below.setCell (p := ⟨w.heap.size + 1, 8, none⟩) ((Below.setCell (p := ⟨w.heap.size + 1, 4, none⟩) ((Below.setCell (p := ⟨w.heap.size + 1, 7, none⟩) ((Below.setCell (p := ⟨w.heap.size + 1, 3, none⟩) (HB.out) (by show w.heap.size ≤ w.heap.size + 1; omega) _)) (by show w.heap.size ≤ w.heap.size + 1; omega) _)) (by show w.heap.size ≤ w.heap.size + 1; omega) _)) (by show w.heap.size ≤ w.heap.size + 1; omega) _)⟩
          · have HSP3 := Lib.hid (show sp3 (35 :: t3) = ([], false, 35 :: t3) from by unfold sp3; rw [if_neg (by simp)])
            have e1 : ((B (35 :: t3)).toList != ([] : List UInt8)) = true := by rw [B_toList]; rfl
            have e0 : ((B (35 :: t3)).toList == ([] : List UInt8)) = false := by rw [B_toList]; rfl
            have e2 : (B (35 :: t3)).toList.isEmpty = false := by rw [B_toList]; rfl
            have e3 : (!(B (35 :: t3)).toList.isEmpty) = true := by rw [e2]; rfl
            have i0 := eq_true (show (0 : Int) < ((B (35 :: t3)).size : Int) by rw [B_size, List.length_cons]; omega)
            have i2 := eq_true (show 0 < (B (35 :: t3)).size by rw [B_size, List.length_cons]; omega)
            have i4 := eq_true (show (1 : Int) ≤ ((B (35 :: t3)).size : Int) by rw [B_size, List.length_cons]; omega)
            have i6 := eq_true (show 1 ≤ (B (35 :: t3)).size by rw [B_size, List.length_cons]; omega)
            have i1 := bt_at (B (35 :: t3)) 0
            have i3 : bt (B (35 :: t3)) 0 = 35 := bt_head 35 t3
            have i7 : ∀ h : 0 < (B (35 :: t3)).size, ((((B (35 :: t3))[0]'h).toNat : Int)) = 35 := fun h => (i1 h).trans i3
            have i5 : (B (35 :: t3)).extract 1 (B (35 :: t3)).size = B t3 := extract_tail (35 :: t3) 1
            generalize B (35 :: t3) = b3 at *
            obtain ⟨⟨z0, z1, z2, z3, z4, z5, z6, z7, z8⟩, ⟨f0, f1, f2, f3, f4, f5, f6, f7, f8⟩⟩ := cells9 KU.out
            obtain ⟨⟨y0, y1, y2, y3, y4, y5, y6, y7, y8⟩, ⟨g0, g1, g2, g3, g4, g5, g6, g7, g8⟩⟩ := cells9 KZ.out
            have hv := split_is HSP0.out HSP1.out HP.out HSP3.out
            rw [HU.out] at hv
            subst hv
            go_wp2
            exact bodyPost_ret (results_cell_row rfl _ _ w.heap.size 24 _ (0, 0) _ rfl (put9 (blk_far ((blk_far ((blk_far (KZ.out) (p := ⟨w.heap.size + 1, 2, none⟩) (by show w.heap.size ≠ w.heap.size + 1; omega) _)) (p := ⟨w.heap.size + 1, 4, none⟩) (by show w.heap.size ≠ w.heap.size + 1; omega) _)) (p := ⟨w.heap.size + 1, 8, none⟩) (by show w.heap.size ≠ w.heap.size + 1; omega) _)) Tryd.underlying24 rfl (by kernel_rfl)) rfl ⟨rfl, below9 (Below.setCell (p := ⟨w.heap.size + 1, 8, none⟩) ((Below.setCell (p := ⟨w.heap.size + 1, 4, none⟩) ((Below.setCell (p := ⟨w.heap.size + 1, 2, none⟩) (HB.out) (by show w.heap.size ≤ w.heap.size + 1; omega) _)) (by show w.heap.size ≤ w.heap.size + 1; omega) _)) (by show w.heap.size ≤ w.heap.size + 1; omega) _)⟩
      · have m0 : decide ((1 : Int) < ((B t).size : Int)) = false := decide_eq_false (by rw [B_size]; omega)
        have m1 : decide (1 < (B t).size) = false := decide_eq_false (by rw [B_size]; omega)
        have HSP1 := Lib.hid (show sp1 t = ([], false, t) from by unfold sp1; rw [if_neg (by rw [short2 t (by omega)]; decide)])
        obtain ⟨⟨z0, z1, z2, z3, z4, z5, z6, z7, z8⟩, ⟨f0, f1, f2, f3, f4, f5, f6, f7, f8⟩⟩ := cells9 KU.out
        go_wp2_with fail
        clear z0 z1 z2 z3 z4 z5 z6 z7 z8 f0 f1 f2 f3 f4 f5 f6 f7 f8
        clear m0 m1 h1
        refine (first_calls [63, 35] t _ (by omega) (by decide)).mono ?_
        rintro z w14 ⟨rfl, h⟩
        obtain ⟨ku, kz, hb⟩ := after9 (blk_put (cs' := #[.string (B sch), .string (⟨#[]⟩ : ByteArray), .string (⟨#[]⟩ : ByteArray), .string (⟨#[]⟩ : ByteArray), .string (⟨#[]⟩ : ByteArray), .bool true, .bool false, .bool false, .bool false]) ((blk_put (cs' := #[.string (B sch), .string (⟨#[]⟩ : ByteArray), .string (⟨#[]⟩ : ByteArray), .string (⟨#[]⟩ : ByteArray), .string (⟨#[]⟩ : ByteArray), .bool false, .bool false, .bool false, .bool false]) (KU.out) 0 _ rfl)) 5 _ rfl) (blk_far ((blk_far (KZ.out) (p := ⟨w.heap.size + 1, 0, none⟩) (by show w.heap.size ≠ w.heap.size + 1; omega) _)) (p := ⟨w.heap.size + 1, 5, none⟩) (by show w.heap.size ≠ w.heap.size + 1; omega) _) (Below.setCell (p := ⟨w.heap.size + 1, 5, none⟩) ((Below.setCell (p := ⟨w.heap.size + 1, 0, none⟩) (HB.out) (by show w.heap.size ≤ w.heap.size + 1; omega) _)) (by show w.heap.size ≤ w.heap.size + 1; omega) _) h
        clear h KU KZ HB
        have KZ := Aside0.mk kz
        have KU := Aside0.mk ku
        have HB := Aside0.mk hb
        clear kz ku hb
        obtain ⟨s2, hs2⟩ : ∃ q, q = t := ⟨_, rfl⟩
        subst hs2
        have hl2 : s2.length < 4000000000 := by omega
        have hn3 := tw_sum [63, 35] s2
        have ht3 := tw_take [63, 35] s2
        have hd3 := tw_drop [63, 35] s2
        have hq3 := head3 s2
        have hz3 : (B s2).size = s2.length := B_size s2
        obtain ⟨x3, hx3⟩ : ∃ x : Int, ((s2.takeWhile (notIn [63, 35])).length : Int) = x := ⟨_, rfl⟩
        rw [hx3]
        obtain ⟨path, hpath⟩ : ∃ q, s2.takeWhile (notIn [63, 35]) = q := ⟨_, rfl⟩
        obtain ⟨s3, hs3⟩ : ∃ q, s2.dropWhile (notIn [63, 35]) = q := ⟨_, rfl⟩
        rw [hpath, hs3] at hn3
        rw [hpath] at ht3 hd3 hx3
        rw [hs3] at hd3 hq3
        have HP := Lib.hid (And.intro hpath hs3)
        clear hpath hs3
        have ea : (B s2).extract 0 x3.toNat = B path := by rw [extract_head, ← hx3, Int.toNat_natCast, ht3]
        have eb : (B s2).extract x3.toNat (B s2).size = B s3 := by rw [extract_tail, ← hx3, Int.toNat_natCast, hd3]
        have r0 := eq_true (show 0 ≤ x3 by omega)
        have r1 := eq_true (show x3 ≤ ((B s2).size : Int) by rw [hz3]; omega)
        have hl3 : s3.length ≤ s2.length := by omega
        clear hn3 ht3 hd3 hx3 hz3
        generalize B s2 = b2 at *
        rcases hq3 with rfl | ⟨t3, rfl | rfl⟩
        · have HSP3 := Lib.hid (show sp3 [] = ([], false, []) from rfl)
          have e0 : ((B []).toList == ([] : List UInt8)) = true := by rw [B_toList]; rfl
          have e1 : ((B []).toList != ([] : List UInt8)) = false := by rw [B_toList]; rfl
          have e2 : (B []).toList.isEmpty = true := by rw [B_toList]; rfl
          have e3 : (!(B []).toList.isEmpty) = false := by rw [e2]; rfl
          generalize B [] = b3 at e0 e1 e2 e3 eb ⊢
          obtain ⟨⟨z0, z1, z2, z3, z4, z5, z6, z7, z8⟩, ⟨f0, f1, f2, f3, f4, f5, f6, f7, f8⟩⟩ := cells9 KU.out
          obtain ⟨⟨y0, y1, y2, y3, y4, y5, y6, y7, y8⟩, ⟨g0, g1, g2, g3, g4, g5, g6, g7, g8⟩⟩ := cells9 KZ.out
          have hv := split_is HSP0.out HSP1.out HP.out HSP3.out
          rw [HU.out] at hv
          subst hv
          go_wp2
          exact bodyPost_ret (results_cell_row rfl _ _ w.heap.size 24 _ (0, 0) _ rfl (put9 (blk_far (KZ.out) (p := ⟨w.heap.size + 1, 2, none⟩) (by show w.heap.size ≠ w.heap.size + 1; omega) _)) Tryd.underlying24 rfl (by kernel_rfl)) rfl ⟨rfl, below9 (Below.setCell (p := ⟨w.heap.size + 1, 2, none⟩) (HB.out) (by show w.heap.size ≤ w.heap.size + 1; omega) _)⟩
        · have hs4 := tw_sum [35] t3
          have hq4 := head4 t3
          have ht4 := tw_take [35] t3
          have hd4 := tw_drop [35] t3
          have e1 : ((B (63 :: t3)).toList != ([] : List UInt8)) = true := by rw [B_toList]; rfl
          have e0 : ((B (63 :: t3)).toList == ([] : List UInt8)) = false := by rw [B_toList]; rfl
          have e2 : (B (63 :: t3)).toList.isEmpty = false := by rw [B_toList]; rfl
          have e3 : (!(B (63 :: t3)).toList.isEmpty) = true := by rw [e2]; rfl
          have i0 := eq_true (show (0 : Int) < ((B (63 :: t3)).size : Int) by rw [B_size, List.length_cons]; omega)
          have i2 := eq_true (show 0 < (B (63 :: t3)).size by rw [B_size, List.length_cons]; omega)
          have i1 := bt_at (B (63 :: t3)) 0
          have i3 : bt (B (63 :: t3)) 0 = 63 := bt_head 63 t3
          have i7 : ∀ h : 0 < (B (63 :: t3)).size, ((((B (63 :: t3))[0]'h).toNat : Int)) = 63 := fun h => (i1 h).trans i3
          obtain ⟨⟨z0, z1, z2, z3, z4, z5, z6, z7, z8⟩, ⟨f0, f1, f2, f3, f4, f5, f6, f7, f8⟩⟩ := cells9 KU.out
          go_wp2_with fail
          clear z0 z1 z2 z3 z4 z5 z6 z7 z8 f0 f1 f2 f3 f4 f5 f6 f7 f8
          clear e0 e1 e2 e3
          refine (first_calls [35] (63 :: t3) _ (by omega) (by decide)).mono ?_
          rintro z w15 ⟨rfl, h⟩
          obtain ⟨ku, kz, hb⟩ := after9 (blk_put (cs' := #[.string (B sch), .string (⟨#[]⟩ : ByteArray), .string (B path), .string (⟨#[]⟩ : ByteArray), .string (⟨#[]⟩ : ByteArray), .bool true, .bool false, .bool false, .bool false]) (KU.out) 2 _ rfl) (blk_far (KZ.out) (p := ⟨w.heap.size + 1, 2, none⟩) (by show w.heap.size ≠ w.heap.size + 1; omega) _) (Below.setCell (p := ⟨w.heap.size + 1, 2, none⟩) (HB.out) (by show w.heap.size ≤ w.heap.size + 1; omega) _) h
          clear h KU KZ HB
          have KZ := Aside0.mk kz
          have KU := Aside0.mk ku
          have HB := Aside0.mk hb
          clear kz ku hb
          have htw : (63 :: t3).takeWhile (notIn [35]) = 63 :: t3.takeWhile (notIn [35]) := rfl
          rw [htw, List.length_cons]
          obtain ⟨x4, hx4⟩ : ∃ x : Int, (((t3.takeWhile (notIn [35])).length + 1 : Nat) : Int) = x := ⟨_, rfl⟩
          rw [hx4]
          obtain ⟨query, hquery⟩ : ∃ q, t3.takeWhile (notIn [35]) = q := ⟨_, rfl⟩
          obtain ⟨s4, hs4e⟩ : ∃ q, t3.dropWhile (notIn [35]) = q := ⟨_, rfl⟩
          have HSP3 := Lib.hid (show sp3 (63 :: t3) = (query, true, s4) from by unfold sp3; rw [if_pos (show (63 :: t3 : Bs).head? = some 63 from rfl), List.tail_cons, hquery, hs4e])
          rw [hquery, hs4e] at hs4
          rw [hquery] at ht4 hd4 hx4
          rw [hs4e] at hd4 hq4
          clear hquery hs4e htw
          have hz4 : (B (63 :: t3)).size = t3.length + 1 := by rw [B_size, List.length_cons]
          have ec : (B (63 :: t3)).extract 1 x4.toNat = B query := by rw [B_extract, ← hx4, Int.toNat_natCast]; simp only [List.take_succ_cons, List.drop_succ_cons, List.drop_zero]; rw [ht4]
          have ed : (B (63 :: t3)).extract x4.toNat (B (63 :: t3)).size = B s4 := by rw [extract_tail, ← hx4, Int.toNat_natCast, List.drop_succ_cons, hd4]
          have r2 := eq_true (show 1 ≤ x4 by omega)
          have r3 := eq_true (show x4 ≤ ((B (63 :: t3)).size : Int) by rw [hz4]; omega)
          have r4 := eq_true (show 0 ≤ x4 by omega)
          clear hs4 ht4 hd4 hx4 hz4
          generalize B (63 :: t3) = b4 at *
          rcases hq4 with rfl | ⟨t4, rfl⟩
          · have e0 : ((B []).toList == ([] : List UInt8)) = true := by rw [B_toList]; rfl
            have e1 : ((B []).toList != ([] : List UInt8)) = false := by rw [B_toList]; rfl
            have e2 : (B []).toList.isEmpty = true := by rw [B_toList]; rfl
            have e3 : (!(B []).toList.isEmpty) = false := by rw [e2]; rfl
            generalize B [] = b5 at e0 e1 e2 e3 ed ⊢
            obtain ⟨⟨z0, z1, z2, z3, z4, z5, z6, z7, z8⟩, ⟨f0, f1, f2, f3, f4, f5, f6, f7, f8⟩⟩ := cells9 KU.out
            obtain ⟨⟨y0, y1, y2, y3, y4, y5, y6, y7, y8⟩, ⟨g0, g1, g2, g3, g4, g5, g6, g7, g8⟩⟩ := cells9 KZ.out
            have hv := split_is HSP0.out HSP1.out HP.out HSP3.out
            rw [HU.out] at hv
            subst hv
            go_wp2
            exact bodyPost_ret (results_cell_row rfl _ _ w.heap.size 24 _ (0, 0) _ rfl (put9 (blk_far ((blk_far (KZ.out) (p := ⟨w.heap.size + 1, 3, none⟩) (by show w.heap.size ≠ w.heap.size + 1; omega) _)) (p := ⟨w.heap.size + 1, 7, none⟩) (by show w.heap.size ≠ w.heap.size + 1; omega) _)) Tryd.underlying24 rfl (by kernel_rfl)) rfl ⟨rfl, below9 (Below.setCell (p := ⟨w.heap.size + 1, 7, none⟩) ((Below.setCell (p := ⟨w.heap.size + 1, 3, none⟩) (HB.out) (by show w.heap.size ≤ w.heap.size + 1; omega) _)) (by show w.heap.size ≤ w.heap.size + 1; omega) _)⟩
          · have e1 : ((B (35 :: t4)).toList != ([] : List UInt8)) = true := by rw [B_toList]; rfl
            have e0 : ((B (35 :: t4)).toList == ([] : List UInt8)) = false := by rw [B_toList]; rfl
            have e2 : (B (35 :: t4)).toList.isEmpty = false := by rw [B_toList]; rfl
            have e3 : (!(B (35 :: t4)).toList.isEmpty) = true := by rw [e2]; rfl
            have i0 := eq_true (show (1 : Int) ≤ ((B (35 :: t4)).size : Int) by rw [B_size, List.length_cons]; omega)
            have i2 := eq_true (show 1 ≤ (B (35 :: t4)).size by rw [B_size, List.length_cons]; omega)
            have i1 : (B (35 :: t4)).extract 1 (B (35 :: t4)).size = B t4 := extract_tail (35 :: t4) 1
            generalize B (35 :: t4) = b5 at *
            obtain ⟨⟨z0, z1, z2, z3, z4, z5, z6, z7, z8⟩, ⟨f0, f1, f2, f3, f4, f5, f6, f7, f8⟩⟩ := cells9 KU.out
            obtain ⟨⟨y0, y1, y2, y3, y4, y5, y6, y7, y8⟩, ⟨g0, g1, g2, g3, g4, g5, g6, g7, g8⟩⟩ := cells9 KZ.out
            have hv := split_is HSP0.out HSP1.out HP.out HSP3.out
            rw [HU.out] at hv
            subst hv
            go_wp2
            exact bodyPost_ret (results_cell_row rfl _ _ w.heap.size 24 _ (0, 0) _ rfl (put9 (blk_far ((blk_far ((blk_far ((blk_far (KZ.out) (p := ⟨w.heap.size + 1, 3, none⟩) (by show w.heap.size ≠ w.heap.size + 1; omega) _)) (p := ⟨w.heap.size + 1, 7, none⟩) (by show w.heap.size ≠ w.heap.size + 1; omega) _)) (p := ⟨w.heap.size + 1, 4, none⟩) (by show w.heap.size ≠ w.heap.size + 1; omega) _)) (p := ⟨w.heap.size + 1, 8, none⟩) (by show w.heap.size ≠ w.heap.size + 1; omega) _)) Tryd.underlying24 rfl (by kernel_rfl)) rfl ⟨rfl, below9 (Below.setCell (p := ⟨w.heap.size + 1, 8, none⟩) ((Below.setCell (p := ⟨w.heap.size + 1, 4, none⟩) ((Below.setCell (p := ⟨w.heap.size + 1, 7, none⟩) ((Below.setCell (p := ⟨w.heap.size + 1, 3, none⟩) (HB.out) (by show w.heap.size ≤ w.heap.size + 1; omega) _)) (by show w.heap.size ≤ w.heap.size + 1; omega) _)) (by show w.heap.size ≤ w.heap.size + 1; omega) _)) (by show w.heap.size ≤ w.heap.size + 1; omega) _)⟩
        · have HSP3 := Lib.hid (show sp3 (35 :: t3) = ([], false, 35 :: t3) from by unfold sp3; rw [if_neg (by simp)])
          have e1 : ((B (35 :: t3)).toList != ([] : List UInt8)) = true := by rw [B_toList]; rfl
          have e0 : ((B (35 :: t3)).toList == ([] : List UInt8)) = false := by rw [B_toList]; rfl
          have e2 : (B (35 :: t3)).toList.isEmpty = false := by rw [B_toList]; rfl
          have e3 : (!(B (35 :: t3)).toList.isEmpty) = true := by rw [e2]; rfl
          have i0 := eq_true (show (0 : Int) < ((B (35 :: t3)).size : Int) by rw [B_size, List.length_cons]; omega)
          have i2 := eq_true (show 0 < (B (35 :: t3)).size by rw [B_size, List.length_cons]; omega)
          have i4 := eq_true (show (1 : Int) ≤ ((B (35 :: t3)).size : Int) by rw [B_size, List.length_cons]; omega)
          have i6 := eq_true (show 1 ≤ (B (35 :: t3)).size by rw [B_size, List.length_cons]; omega)
          have i1 := bt_at (B (35 :: t3)) 0
          have i3 : bt (B (35 :: t3)) 0 = 35 := bt_head 35 t3
          have i7 : ∀ h : 0 < (B (35 :: t3)).size, ((((B (35 :: t3))[0]'h).toNat : Int)) = 35 := fun h => (i1 h).trans i3
          have i5 : (B (35 :: t3)).extract 1 (B (35 :: t3)).size = B t3 := extract_tail (35 :: t3) 1
          generalize B (35 :: t3) = b3 at *
          obtain ⟨⟨z0, z1, z2, z3, z4, z5, z6, z7, z8⟩, ⟨f0, f1, f2, f3, f4, f5, f6, f7, f8⟩⟩ := cells9 KU.out
          obtain ⟨⟨y0, y1, y2, y3, y4, y5, y6, y7, y8⟩, ⟨g0, g1, g2, g3, g4, g5, g6, g7, g8⟩⟩ := cells9 KZ.out
          have hv := split_is HSP0.out HSP1.out HP.out HSP3.out
          rw [HU.out] at hv
          subst hv
          go_wp2
          exact bodyPost_ret (results_cell_row rfl _ _ w.heap.size 24 _ (0, 0) _ rfl (put9 (blk_far ((blk_far ((blk_far (KZ.out) (p := ⟨w.heap.size + 1, 2, none⟩) (by show w.heap.size ≠ w.heap.size + 1; omega) _)) (p := ⟨w.heap.size + 1, 4, none⟩) (by show w.heap.size ≠ w.heap.size + 1; omega) _)) (p := ⟨w.heap.size + 1, 8, none⟩) (by show w.heap.size ≠ w.heap.size + 1; omega) _)) Tryd.underlying24 rfl (by kernel_rfl)) rfl ⟨rfl, below9 (Below.setCell (p := ⟨w.heap.size + 1, 8, none⟩) ((Below.setCell (p := ⟨w.heap.size + 1, 4, none⟩) ((Below.setCell (p := ⟨w.heap.size + 1, 2, none⟩) (HB.out) (by show w.heap.size ≤ w.heap.size + 1; omega) _)) (by show w.heap.size ≤ w.heap.size + 1; omega) _)) (by show w.heap.size ≤ w.heap.size + 1; omega) _)⟩
    · have HSP0 := Lib.hid (show sp0 l = ([], false, l) from hsp (by rw [hd]; simpa using h58))
      have q6 : (bt (B l) x == 58) = false := by rw [hc, beq_eq_false_iff_ne]; exact val_ne c 58 h58
      clear hsp hd htt htd hn hlt h2 hc hx h58
      by_cases h1 : 1 < l.length
      · have m0 : decide ((1 : Int) < ((B l).size : Int)) = true := decide_eq_true (by rw [B_size]; omega)
        have m1 : decide (1 < (B l).size) = true := decide_eq_true (by rw [B_size]; omega)
        have m2 := eq_true (show (2 : Int) ≤ ((B l).size : Int) by rw [B_size]; omega)
        have m3 := eq_true (show 2 ≤ (B l).size by rw [B_size]; omega)
        by_cases hp : hasPrefix l [47, 47] = true
        · have m4 : (((B l).extract 0 2).toList == ([47, 47] : List UInt8)) = true := by rw [extract_head, B_toList]; exact (take2 l).1 hp
          have m5 : (B l).extract 2 (B l).size = B (l.drop 2) := extract_tail l 2
          have hld : (l.drop 2).length ≤ l.length := by rw [List.length_drop]; omega
          obtain ⟨⟨z0, z1, z2, z3, z4, z5, z6, z7, z8⟩, ⟨f0, f1, f2, f3, f4, f5, f6, f7, f8⟩⟩ := cells9 KU.out
          go_wp2_with fail
          clear z0 z1 z2 z3 z4 z5 z6 z7 z8 f0 f1 f2 f3 f4 f5 f6 f7 f8
          clear m0 m1 m3 m4 m5
          refine (first_calls [47, 63, 35] (l.drop 2) _ (by omega) (by decide)).mono ?_
          rintro z w16 ⟨rfl, h⟩
          obtain ⟨ku, kz, hb⟩ := after9 KU.out KZ.out HB.out h
          clear h KU KZ HB
          have KZ := Aside0.mk kz
          have KU := Aside0.mk ku
          have HB := Aside0.mk hb
          clear kz ku hb
          have hn2 := tw_sum [47, 63, 35] (l.drop 2)
          have ht2 := tw_take [47, 63, 35] (l.drop 2)
          have hd2 := tw_drop [47, 63, 35] (l.drop 2)
          obtain ⟨x2, hx2⟩ : ∃ x : Int, (((l.drop 2).takeWhile (notIn [47, 63, 35])).length : Int) = x := ⟨_, rfl⟩
          rw [hx2]
          obtain ⟨host, hhost⟩ : ∃ q, (l.drop 2).takeWhile (notIn [47, 63, 35]) = q := ⟨_, rfl⟩
          obtain ⟨s2, hs2⟩ : ∃ q, (l.drop 2).dropWhile (notIn [47, 63, 35]) = q := ⟨_, rfl⟩
          have HSP1 := Lib.hid (show sp1 l = (host, true, s2) from by unfold sp1; rw [if_pos hp, hhost, hs2])
          rw [hhost, hs2] at hn2
          rw [hhost] at ht2 hd2 hx2
          rw [hs2] at hd2
          clear hhost hs2
          have hdl : (l.drop 2).length = l.length - 2 := List.length_drop
          obtain ⟨y2, hy2⟩ : ∃ y : Int, wrap64 (x2 + 2) = y := ⟨_, rfl⟩
          have hy2v : y2 = x2 + 2 := by rw [← hy2]; unfold wrap64; omega
          have hyn : y2.toNat = host.length + 2 := by omega
          have ec2 : (B l).extract 2 y2.toNat = B host := by rw [B_extract, hyn, List.drop_take, Nat.add_sub_cancel, ht2]
          have ed2 : (B l).extract y2.toNat (B l).size = B s2 := by rw [extract_tail, hyn, Nat.add_comm, ← List.drop_drop, hd2]
          have hl2 : s2.length ≤ l.length := by omega
          have r5 := eq_true (show 2 ≤ y2 by omega)
          have r6 := eq_true (show y2 ≤ ((B l).size : Int) by rw [B_size]; omega)
          have r7 := eq_true (show 0 ≤ y2 by omega)
          clear hn2 ht2 hd2 hy2v hyn hdl m2
          generalize B l = b1 at *
          obtain ⟨⟨z0, z1, z2, z3, z4, z5, z6, z7, z8⟩, ⟨f0, f1, f2, f3, f4, f5, f6, f7, f8⟩⟩ := cells9 KU.out
          go_wp2_with fail
          clear z0 z1 z2 z3 z4 z5 z6 z7 z8 f0 f1 f2 f3 f4 f5 f6 f7 f8
          refine (first_calls [63, 35] s2 _ (by omega) (by decide)).mono ?_
          rintro z w17 ⟨rfl, h⟩
          obtain ⟨ku, kz, hb⟩ := after9 (blk_put (cs' := #[.string (⟨#[]⟩ : ByteArray), .string (B host), .string (⟨#[]⟩ : ByteArray), .string (⟨#[]⟩ : ByteArray), .string (⟨#[]⟩ : ByteArray), .bool false, .bool true, .bool false, .bool false]) ((blk_put (cs' := #[.string (⟨#[]⟩ : ByteArray), .string (B host), .string (⟨#[]⟩ : ByteArray), .string (⟨#[]⟩ : ByteArray), .string (⟨#[]⟩ : ByteArray), .bool false, .bool false, .bool false, .bool false]) (KU.out) 1 _ rfl)) 6 _ rfl) (blk_far ((blk_far (KZ.out) (p := ⟨w.heap.size + 1, 1, none⟩) (by show w.heap.size ≠ w.heap.size + 1; omega) _)) (p := ⟨w.heap.size + 1, 6, none⟩) (by show w.heap.size ≠ w.heap.size + 1; omega) _) (Below.setCell (p := ⟨w.heap.size + 1, 6, none⟩) ((Below.setCell (p := ⟨w.heap.size + 1, 1, none⟩) (HB.out) (by show w.heap.size ≤ w.heap.size + 1; omega) _)) (by show w.heap.size ≤ w.heap.size + 1; omega) _) h
          clear h KU KZ HB
          have KZ := Aside0.mk kz
          have KU := Aside0.mk ku
          have HB := Aside0.mk hb
          clear kz ku hb
          clear ec2 ed2 r5 r6 r7 hy2 hx2
          have hn3 := tw_sum [63, 35] s2
          have ht3 := tw_take [63, 35] s2
          have hd3 := tw_drop [63, 35] s2
          have hq3 := head3 s2
          have hz3 : (B s2).size = s2.length := B_size s2
          obtain ⟨x3, hx3⟩ : ∃ x : Int, ((s2.takeWhile (notIn [63, 35])).length : Int) = x := ⟨_, rfl⟩
          rw [hx3]
          obtain ⟨path, hpath⟩ : ∃ q, s2.takeWhile (notIn [63, 35]) = q := ⟨_, rfl⟩
          obtain ⟨s3, hs3⟩ : ∃ q, s2.dropWhile (notIn [63, 35]) = q := ⟨_, rfl⟩
          rw [hpath, hs3] at hn3
          rw [hpath] at ht3 hd3 hx3
          rw [hs3] at hd3 hq3
          have HP := Lib.hid (And.intro hpath hs3)
          clear hpath hs3
          have ea : (B s2).extract 0 x3.toNat = B path := by rw [extract_head, ← hx3, Int.toNat_natCast, ht3]
          have eb : (B s2).extract x3.toNat (B s2).size = B s3 := by rw [extract_tail, ← hx3, Int.toNat_natCast, hd3]
          have r0 := eq_true (show 0 ≤ x3 by omega)
          have r1 := eq_true (show x3 ≤ ((B s2).size : Int) by rw [hz3]; omega)
          have hl3 : s3.length ≤ s2.length := by omega
          clear hn3 ht3 hd3 hx3 hz3
          generalize B s2 = b2 at *
          rcases hq3 with rfl | ⟨t3, rfl | rfl⟩
          · have HSP3 := Lib.hid (show sp3 [] = ([], false, []) from rfl)
            have e0 : ((B []).toList == ([] : List UInt8)) = true := by rw [B_toList]; rfl
            have e1 : ((B []).toList != ([] : List UInt8)) = false := by rw [B_toList]; rfl
            have e2 : (B []).toList.isEmpty = true := by rw [B_toList]; rfl
            have e3 : (!(B []).toList.isEmpty) = false := by rw [e2]; rfl
            generalize B [] = b3 at e0 e1 e2 e3 eb ⊢
            obtain ⟨⟨z0, z1, z2, z3, z4, z5, z6, z7, z8⟩, ⟨f0, f1, f2, f3, f4, f5, f6, f7, f8⟩⟩ := cells9 KU.out
            obtain ⟨⟨y0, y1, y2, y3, y4, y5, y6, y7, y8⟩, ⟨g0, g1, g2, g3, g4, g5, g6, g7, g8⟩⟩ := cells9 KZ.out
            have hv := split_is HSP0.out HSP1.out HP.out HSP3.out
            rw [HU.out] at hv
            subst hv
            go_wp2
            exact bodyPost_ret (results_cell_row rfl _ _ w.heap.size 24 _ (0, 0) _ rfl (put9 (blk_far (KZ.out) (p := ⟨w.heap.size + 1, 2, none⟩) (by show w.heap.size ≠ w.heap.size + 1; omega) _)) Tryd.underlying24 rfl (by kernel_rfl)) rfl ⟨rfl, below9 (Below.setCell (p := ⟨w.heap.size + 1, 2, none⟩) (HB.out) (by show w.heap.size ≤ w.heap.size + 1; omega) _)⟩
          · have hs4 := tw_sum [35] t3
            have hq4 := head4 t3
            have ht4 := tw_take [35] t3
            have hd4 := tw_drop [35] t3
            have e1 : ((B (63 :: t3)).toList != ([] : List UInt8)) = true := by rw [B_toList]; rfl
            have e0 : ((B (63 :: t3)).toList == ([] : List UInt8)) = false := by rw [B_toList]; rfl
            have e2 : (B (63 :: t3)).toList.isEmpty = false := by rw [B_toList]; rfl
            have e3 : (!(B (63 :: t3)).toList.isEmpty) = true := by rw [e2]; rfl
            have i0 := eq_true (show (0 : Int) < ((B (63 :: t3)).size : Int) by rw [B_size, List.length_cons]; omega)
            have i2 := eq_true (show 0 < (B (63 :: t3)).size by rw [B_size, List.length_cons]; omega)
            have i1 := bt_at (B (63 :: t3)) 0
            have i3 : bt (B (63 :: t3)) 0 = 63 := bt_head 63 t3
            have i7 : ∀ h : 0 < (B (63 :: t3)).size, ((((B (63 :: t3))[0]'h).toNat : Int)) = 63 := fun h => (i1 h).trans i3
            obtain ⟨⟨z0, z1, z2, z3, z4, z5, z6, z7, z8⟩, ⟨f0, f1, f2, f3, f4, f5, f6, f7, f8⟩⟩ := cells9 KU.out
            go_wp2_with fail
            clear z0 z1 z2 z3 z4 z5 z6 z7 z8 f0 f1 f2 f3 f4 f5 f6 f7 f8
            clear e0 e1 e2 e3
            refine (first_calls [35] (63 :: t3) _ (by omega) (by decide)).mono ?_
            rintro z w18 ⟨rfl, h⟩
            obtain ⟨ku, kz, hb⟩ := after9 (blk_put (cs' := #[.string (⟨#[]⟩ : ByteArray), .string (B host), .string (B path), .string (⟨#[]⟩ : ByteArray), .string (⟨#[]⟩ : ByteArray), .bool false, .bool true, .bool false, .bool false]) (KU.out) 2 _ rfl) (blk_far (KZ.out) (p := ⟨w.heap.size + 1, 2, none⟩) (by show w.heap.size ≠ w.heap.size + 1; omega) _) (Below.setCell (p := ⟨w.heap.size + 1, 2, none⟩) (HB.out) (by show w.heap.size ≤ w.heap.size + 1; omega) _) h
            clear h KU KZ HB
            have KZ := Aside0.mk kz
            have KU := Aside0.mk ku
            have HB := Aside0.mk hb
            clear kz ku hb
            have htw : (63 :: t3).takeWhile (notIn [35]) = 63 :: t3.takeWhile (notIn [35]) := rfl
            rw [htw, List.length_cons]
            obtain ⟨x4, hx4⟩ : ∃ x : Int, (((t3.takeWhile (notIn [35])).length + 1 : Nat) : Int) = x := ⟨_, rfl⟩
            rw [hx4]
            obtain ⟨query, hquery⟩ : ∃ q, t3.takeWhile (notIn [35]) = q := ⟨_, rfl⟩
            obtain ⟨s4, hs4e⟩ : ∃ q, t3.dropWhile (notIn [35]) = q := ⟨_, rfl⟩
            have HSP3 := Lib.hid (show sp3 (63 :: t3) = (query, true, s4) from by unfold sp3; rw [if_pos (show (63 :: t3 : Bs).head? = some 63 from rfl), List.tail_cons, hquery, hs4e])
            rw [hquery, hs4e] at hs4
            rw [hquery] at ht4 hd4 hx4
            rw [hs4e] at hd4 hq4
            clear hquery hs4e htw
            have hz4 : (B (63 :: t3)).size = t3.length + 1 := by rw [B_size, List.length_cons]
            have ec : (B (63 :: t3)).extract 1 x4.toNat = B query := by rw [B_extract, ← hx4, Int.toNat_natCast]; simp only [List.take_succ_cons, List.drop_succ_cons, List.drop_zero]; rw [ht4]
            have ed : (B (63 :: t3)).extract x4.toNat (B (63 :: t3)).size = B s4 := by rw [extract_tail, ← hx4, Int.toNat_natCast, List.drop_succ_cons, hd4]
            have r2 := eq_true (show 1 ≤ x4 by omega)
            have r3 := eq_true (show x4 ≤ ((B (63 :: t3)).size : Int) by rw [hz4]; omega)
            have r4 := eq_true (show 0 ≤ x4 by omega)
            clear hs4 ht4 hd4 hx4 hz4
            generalize B (63 :: t3) = b4 at *
            rcases hq4 with rfl | ⟨t4, rfl⟩
            · have e0 : ((B []).toList == ([] : List UInt8)) = true := by rw [B_toList]; rfl
              have e1 : ((B []).toList != ([] : List UInt8)) = false := by rw [B_toList]; rfl
              have e2 : (B []).toList.isEmpty = true := by rw [B_toList]; rfl
              have e3 : (!(B []).toList.isEmpty) = false := by rw [e2]; rfl
              generalize B [] = b5 at e0 e1 e2 e3 ed ⊢
              obtain ⟨⟨z0, z1, z2, z3, z4, z5, z6, z7, z8⟩, ⟨f0, f1, f2, f3, f4, f5, f6, f7, f8⟩⟩ := cells9 KU.out
              obtain ⟨⟨y0, y1, y2, y3, y4, y5, y6, y7, y8⟩, ⟨g0, g1, g2, g3, g4, g5, g6, g7, g8⟩⟩ := cells9 KZ.out
              have hv := split_is HSP0.out HSP1.out HP.out HSP3.out
              rw [HU.out] at hv
              subst hv
              go_wp2
              exact bodyPost_ret (results_cell_row rfl _ _ w.heap.size 24 _ (0, 0) _ rfl (put9 (blk_far ((blk_far (KZ.out) (p := ⟨w.heap.size + 1, 3, none⟩) (by show w.heap.size ≠ w.heap.size + 1; omega) _)) (p := ⟨w.heap.size + 1, 7, none⟩) (by show w.heap.size ≠ w.heap.size + 1; omega) _)) Tryd.underlying24 rfl (by kernel_rfl)) rfl ⟨rfl, below9 (Below.setCell (p := ⟨w.heap.size + 1, 7, none⟩) ((Below.setCell (p := ⟨w.heap.size + 1, 3, none⟩) (HB.out) (by show w.heap.size ≤ w.heap.size + 1; omega) _)) (by show w.heap.size ≤ w.heap.size + 1; omega) _)⟩
            · have e1 : ((B (35 :: t4)).toList != ([] : List UInt8)) = true := by rw [B_toList]; rfl
              have e0 : ((B (35 :: t4)).toList == ([] : List UInt8)) = false := by rw [B_toList]; rfl
              have e2 : (B (35 :: t4)).toList.isEmpty = false := by rw [B_toList]; rfl
              have e3 : (!(B (35 :: t4)).toList.isEmpty) = true := by rw [e2]; rfl
              have i0 := eq_true (show (1 : Int) ≤ ((B (35 :: t4)).size : Int) by rw [B_size, List.length_cons]; omega)
              have i2 := eq_true (show 1 ≤ (B (35 :: t4)).size by rw [B_size, List.length_cons]; omega)
              have i1 : (B (35 :: t4)).extract 1 (B (35 :: t4)).size = B t4 := extract_tail (35 :: t4) 1
              generalize B (35 :: t4) = b5 at *
              obtain ⟨⟨z0, z1, z2, z3, z4, z5, z6, z7, z8⟩, ⟨f0, f1, f2, f3, f4, f5, f6, f7, f8⟩⟩ := cells9 KU.out
              obtain ⟨⟨y0, y1, y2, y3, y4, y5, y6, y7, y8⟩, ⟨g0, g1, g2, g3, g4, g5, g6, g7, g8⟩⟩ := cells9 KZ.out
              have hv := split_is HSP0.out HSP1.out HP.out HSP3.out
              rw [HU.out] at hv
              subst hv
              go_wp2
              exact bodyPost_ret (results_cell_row rfl _ _ w.heap.size 24 _ (0, 0) _ rfl (put9 (blk_far ((blk_far ((blk_far ((blk_far (KZ.out) (p := ⟨w.heap.size + 1, 3, none⟩) (by show w.heap.size ≠ w.heap.size + 1; omega) _)) (p := ⟨w.heap.size + 1, 7, none⟩) (by show w.heap.size ≠ w.heap.size + 1; omega) _)) (p := ⟨w.heap.size + 1, 4, none⟩) (by show w.heap.size ≠ w.heap.size + 1; omega) _)) (p := ⟨w.heap.size + 1, 8, none⟩) (by show w.heap.size ≠ w.heap.size + 1; omega) _)) Tryd.underlying24 rfl (by kernel_rfl)) rfl ⟨rfl, below9 (Below.setCell (p := ⟨w.heap.size + 1, 8, none⟩) ((Below.setCell (p := ⟨w.heap.size + 1, 4, none⟩) ((Below.setCell (p := ⟨w.heap.size + 1, 7, none⟩) ((Below.setCell (p := ⟨w.heap.size + 1, 3, none⟩) (HB.out) (by show w.heap.size ≤ w.heap.size + 1; omega) _)) (by show w.heap.size ≤ w.heap.size + 1; omega) _)) (by show w.heap.size ≤ w.heap.size + 1; omega) _)) (by show w.heap.size ≤ w.heap.size + 1; omega) _)⟩
          · have HSP3 := Lib.hid (show sp3 (35 :: t3) = ([], false, 35 :: t3) from by unfold sp3; rw [if_neg (by simp)])
            have e1 : ((B (35 :: t3)).toList != ([] : List UInt8)) = true := by rw [B_toList]; rfl
            have e0 : ((B (35 :: t3)).toList == ([] : List UInt8)) = false := by rw [B_toList]; rfl
            have e2 : (B (35 :: t3)).toList.isEmpty = false := by rw [B_toList]; rfl
            have e3 : (!(B (35 :: t3)).toList.isEmpty) = true := by rw [e2]; rfl
            have i0 := eq_true (show (0 : Int) < ((B (35 :: t3)).size : Int) by rw [B_size, List.length_cons]; omega)
            have i2 := eq_true (show 0 < (B (35 :: t3)).size by rw [B_size, List.length_cons]; omega)
            have i4 := eq_true (show (1 : Int) ≤ ((B (35 :: t3)).size : Int) by rw [B_size, List.length_cons]; omega)
            have i6 := eq_true (show 1 ≤ (B (35 :: t3)).size by rw [B_size, List.length_cons]; omega)
            have i1 := bt_at (B (35 :: t3)) 0
            have i3 : bt (B (35 :: t3)) 0 = 35 := bt_head 35 t3
            have i7 : ∀ h : 0 < (B (35 :: t3)).size, ((((B (35 :: t3))[0]'h).toNat : Int)) = 35 := fun h => (i1 h).trans i3
            have i5 : (B (35 :: t3)).extract 1 (B (35 :: t3)).size = B t3 := extract_tail (35 :: t3) 1
            generalize B (35 :: t3) = b3 at *
            obtain ⟨⟨z0, z1, z2, z3, z4, z5, z6, z7, z8⟩, ⟨f0, f1, f2, f3, f4, f5, f6, f7, f8⟩⟩ := cells9 KU.out
            obtain ⟨⟨y0, y1, y2, y3, y4, y5, y6, y7, y8⟩, ⟨g0, g1, g2, g3, g4, g5, g6, g7, g8⟩⟩ := cells9 KZ.out
            have hv := split_is HSP0.out HSP1.out HP.out HSP3.out
            rw [HU.out] at hv
            subst hv
            go_wp2
            exact bodyPost_ret (results_cell_row rfl _ _ w.heap.size 24 _ (0, 0) _ rfl (put9 (blk_far ((blk_far ((blk_far (KZ.out) (p := ⟨w.heap.size + 1, 2, none⟩) (by show w.heap.size ≠ w.heap.size + 1; omega) _)) (p := ⟨w.heap.size + 1, 4, none⟩) (by show w.heap.size ≠ w.heap.size + 1; omega) _)) (p := ⟨w.heap.size + 1, 8, none⟩) (by show w.heap.size ≠ w.heap.size + 1; omega) _)) Tryd.underlying24 rfl (by kernel_rfl)) rfl ⟨rfl, below9 (Below.setCell (p := ⟨w.heap.size + 1, 8, none⟩) ((Below.setCell (p := ⟨w.heap.size + 1, 4, none⟩) ((Below.setCell (p := ⟨w.heap.size + 1, 2, none⟩) (HB.out) (by show w.heap.size ≤ w.heap.size + 1; omega) _)) (by show w.heap.size ≤ w.heap.size + 1; omega) _)) (by show w.heap.size ≤ w.heap.size + 1; omega) _)⟩
        · have m4 : (((B l).extract 0 2).toList == ([47, 47] : List UInt8)) = false := by rw [extract_head, B_toList]; exact (take2 l).2 hp
          have HSP1 := Lib.hid (show sp1 l = ([], false, l) from by unfold sp1; rw [if_neg hp])
          obtain ⟨⟨z0, z1, z2, z3, z4, z5, z6, z7, z8⟩, ⟨f0, f1, f2, f3, f4, f5, f6, f7, f8⟩⟩ := cells9 KU.out
          go_wp2_with fail
          clear z0 z1 z2 z3 z4 z5 z6 z7 z8 f0 f1 f2 f3 f4 f5 f6 f7 f8
          clear m0 m1 m2 m3 m4 hp h1
          refine (first_calls [63, 35] l _ (by omega) (by decide)).mono ?_
          rintro z w19 ⟨rfl, h⟩
          obtain ⟨ku, kz, hb⟩ := after9 KU.out KZ.out HB.out h
          clear h KU KZ HB
          have KZ := Aside0.mk kz
          have KU := Aside0.mk ku
          have HB := Aside0.mk hb
          clear kz ku hb
          obtain ⟨s2, hs2⟩ : ∃ q, q = l := ⟨_, rfl⟩
          subst hs2
          have hl2 : s2.length < 4000000000 := by omega
          have hn3 := tw_sum [63, 35] s2
          have ht3 := tw_take [63, 35] s2
          have hd3 := tw_drop [63, 35] s2
          have hq3 := head3 s2
          have hz3 : (B s2).size = s2.length := B_size s2
          obtain ⟨x3, hx3⟩ : ∃ x : Int, ((s2.takeWhile (notIn [63, 35])).length : Int) = x := ⟨_, rfl⟩
          rw [hx3]
          obtain ⟨path, hpath⟩ : ∃ q, s2.takeWhile (notIn [63, 35]) = q := ⟨_, rfl⟩
          obtain ⟨s3, hs3⟩ : ∃ q, s2.dropWhile (notIn [63, 35]) = q := ⟨_, rfl⟩
          rw [hpath, hs3] at hn3
          rw [hpath] at ht3 hd3 hx3
          rw [hs3] at hd3 hq3
          have HP := Lib.hid (And.intro hpath hs3)
          clear hpath hs3
          have ea : (B s2).extract 0 x3.toNat = B path := by rw [extract_head, ← hx3, Int.toNat_natCast, ht3]
          have eb : (B s2).extract x3.toNat (B s2).size = B s3 := by rw [extract_tail, ← hx3, Int.toNat_natCast, hd3]
          have r0 := eq_true (show 0 ≤ x3 by omega)
          have r1 := eq_true (show x3 ≤ ((B s2).size : Int) by rw [hz3]; omega)
          have hl3 : s3.length ≤ s2.length := by omega
          clear hn3 ht3 hd3 hx3 hz3
          generalize B s2 = b2 at *
          rcases hq3 with rfl | ⟨t3, rfl | rfl⟩
          · have HSP3 := Lib.hid (show sp3 [] = ([], false, []) from rfl)
            have e0 : ((B []).toList == ([] : List UInt8)) = true := by rw [B_toList]; rfl
            have e1 : ((B []).toList != ([] : List UInt8)) = false := by rw [B_toList]; rfl
            have e2 : (B []).toList.isEmpty = true := by rw [B_toList]; rfl
            have e3 : (!(B []).toList.isEmpty) = false := by rw [e2]; rfl
            generalize B [] = b3 at e0 e1 e2 e3 eb ⊢
            obtain ⟨⟨z0, z1, z2, z3, z4, z5, z6, z7, z8⟩, ⟨f0, f1, f2, f3, f4, f5, f6, f7, f8⟩⟩ := cells9 KU.out
            obtain ⟨⟨y0, y1, y2, y3, y4, y5, y6, y7, y8⟩, ⟨g0, g1, g2, g3, g4, g5, g6, g7, g8⟩⟩ := cells9 KZ.out
            have hv := split_is HSP0.out HSP1.out HP.out HSP3.out
            rw [HU.out] at hv
            subst hv
            go_wp2
            exact bodyPost_ret (results_cell_row rfl _ _ w.heap.size 24 _ (0, 0) _ rfl (put9 (blk_far (KZ.out) (p := ⟨w.heap.size + 1, 2, none⟩) (by show w.heap.size ≠ w.heap.size + 1; omega) _)) Tryd.underlying24 rfl (by kernel_rfl)) rfl ⟨rfl, below9 (Below.setCell (p := ⟨w.heap.size + 1, 2, none⟩) (HB.out) (by show w.heap.size ≤ w.heap.size + 1; omega) _)⟩
          · have hs4 := tw_sum [35] t3
            have hq4 := head4 t3
            have ht4 := tw_take [35] t3
            have hd4 := tw_drop [35] t3
            have e1 : ((B (63 :: t3)).toList != ([] : List UInt8)) = true := by rw [B_toList]; rfl
            have e0 : ((B (63 :: t3)).toList == ([] : List UInt8)) = false := by rw [B_toList]; rfl
            have e2 : (B (63 :: t3)).toList.isEmpty = false := by rw [B_toList]; rfl
            have e3 : (!(B (63 :: t3)).toList.isEmpty) = true := by rw [e2]; rfl
            have i0 := eq_true (show (0 : Int) < ((B (63 :: t3)).size : Int) by rw [B_size, List.length_cons]; omega)
            have i2 := eq_true (show 0 < (B (63 :: t3)).size by rw [B_size, List.length_cons]; omega)
            have i1 := bt_at (B (63 :: t3)) 0
            have i3 : bt (B (63 :: t3)) 0 = 63 := bt_head 63 t3
            have i7 : ∀ h : 0 < (B (63 :: t3)).size, ((((B (63 :: t3))[0]'h).toNat : Int)) = 63 := fun h => (i1 h).trans i3
            obtain ⟨⟨z0, z1, z2, z3, z4, z5, z6, z7, z8⟩, ⟨f0, f1, f2, f3, f4, f5, f6, f7, f8⟩⟩ := cells9 KU.out
            go_wp2_with fail
            clear z0 z1 z2 z3 z4 z5 z6 z7 z8 f0 f1 f2 f3 f4 f5 f6 f7 f8
            clear e0 e1 e2 e3
            refine (first_calls [35] (63 :: t3) _ (by omega) (by decide)).mono ?_
            rintro z w20 ⟨rfl, h⟩
            obtain ⟨ku, kz, hb⟩ := after9 (blk_put (cs' := #[.string (⟨#[]⟩ : ByteArray), .string (⟨#[]⟩ : ByteArray), .string (B path), .string (⟨#[]⟩ : ByteArray), .string (⟨#[]⟩ : ByteArray), .bool false, .bool false, .bool false, .bool false]) (KU.out) 2 _ rfl) (blk_far (KZ.out) (p := ⟨w.heap.size + 1, 2, none⟩) (by show w.heap.size ≠ w.heap.size + 1; omega) _) (Below.setCell (p := ⟨w.heap.size + 1, 2, none⟩) (HB.out) (by show w.heap.size ≤ w.heap.size + 1; omega) _) h
            clear h KU KZ HB
            have KZ := Aside0.mk kz
            have KU := Aside0.mk ku
            have HB := Aside0.mk hb
            clear kz ku hb
            have htw : (63 :: t3).takeWhile (notIn [35]) = 63 :: t3.takeWhile (notIn [35]) := rfl
            rw [htw, List.length_cons]
            obtain ⟨x4, hx4⟩ : ∃ x : Int, (((t3.takeWhile (notIn [35])).length + 1 : Nat) : Int) = x := ⟨_, rfl⟩
            rw [hx4]
            obtain ⟨query, hquery⟩ : ∃ q, t3.takeWhile (notIn [35]) = q := ⟨_, rfl⟩
            obtain ⟨s4, hs4e⟩ : ∃ q, t3.dropWhile (notIn [35]) = q := ⟨_, rfl⟩
            have HSP3 := Lib.hid (show sp3 (63 :: t3) = (query, true, s4) from by unfold sp3; rw [if_pos (show (63 :: t3 : Bs).head? = some 63 from rfl), List.tail_cons, hquery, hs4e])
            rw [hquery, hs4e] at hs4
            rw [hquery] at ht4 hd4 hx4
            rw [hs4e] at hd4 hq4
            clear hquery hs4e htw
            have hz4 : (B (63 :: t3)).size = t3.length + 1 := by rw [B_size, List.length_cons]
            have ec : (B (63 :: t3)).extract 1 x4.toNat = B query := by rw [B_extract, ← hx4, Int.toNat_natCast]; simp only [List.take_succ_cons, List.drop_succ_cons, List.drop_zero]; rw [ht4]
            have ed : (B (63 :: t3)).extract x4.toNat (B (63 :: t3)).size = B s4 := by rw [extract_tail, ← hx4, Int.toNat_natCast, List.drop_succ_cons, hd4]
            have r2 := eq_true (show 1 ≤ x4 by omega)
            have r3 := eq_true (show x4 ≤ ((B (63 :: t3)).size : Int) by rw [hz4]; omega)
            have r4 := eq_true (show 0 ≤ x4 by omega)
            clear hs4 ht4 hd4 hx4 hz4
            generalize B (63 :: t3) = b4 at *
            rcases hq4 with rfl | ⟨t4, rfl⟩
            · have e0 : ((B []).toList == ([] : List UInt8)) = true := by rw [B_toList]; rfl
              have e1 : ((B []).toList != ([] : List UInt8)) = false := by rw [B_toList]; rfl
              have e2 : (B []).toList.isEmpty = true := by rw [B_toList]; rfl
              have e3 : (!(B []).toList.isEmpty) = false := by rw [e2]; rfl
              generalize B [] = b5 at e0 e1 e2 e3 ed ⊢
              obtain ⟨⟨z0, z1, z2, z3, z4, z5, z6, z7, z8⟩, ⟨f0, f1, f2, f3, f4, f5, f6, f7, f8⟩⟩ := cells9 KU.out
              obtain ⟨⟨y0, y1, y2, y3, y4, y5, y6, y7, y8⟩, ⟨g0, g1, g2, g3, g4, g5, g6, g7, g8⟩⟩ := cells9 KZ.out
              have hv := split_is HSP0.out HSP1.out HP.out HSP3.out
              rw [HU.out] at hv
              subst hv
              go_wp2
              exact bodyPost_ret (results_cell_row rfl _ _ w.heap.size 24 _ (0, 0) _ rfl (put9 (blk_far ((blk_far (KZ.out) (p := ⟨w.heap.size + 1, 3, none⟩) (by show w.heap.size ≠ w.heap.size + 1; omega) _)) (p := ⟨w.heap.size + 1, 7, none⟩) (by show w.heap.size ≠ w.heap.size + 1; omega) _)) Tryd.underlying24 rfl (by kernel_rfl)) rfl ⟨rfl, below9 (Below.setCell (p := ⟨w.heap.size + 1, 7, none⟩) ((Below.setCell (p := ⟨w.heap.size + 1, 3, none⟩) (HB.out) (by show w.heap.size ≤ w.heap.size + 1; omega) _)) (by show w.heap.size ≤ w.heap.size + 1; omega) _)⟩
            · have e1 : ((B (35 :: t4)).toList != ([] : List UInt8)) = true := by rw [B_toList]; rfl
              have e0 : ((B (35 :: t4)).toList == ([] : List UInt8)) = false := by rw [B_toList]; rfl
              have e2 : (B (35 :: t4)).toList.isEmpty = false := by rw [B_toList]; rfl
              have e3 : (!(B (35 :: t4)).toList.isEmpty) = true := by rw [e2]; rfl
              have i0 := eq_true (show (1 : Int) ≤ ((B (35 :: t4)).size : Int) by rw [B_size, List.length_cons]; omega)
              have i2 := eq_true (show 1 ≤ (B (35 :: t4)).size by rw [B_size, List.length_cons]; omega)
              have i1 : (B (35 :: t4)).extract 1 (B (35 :: t4)).size = B t4 := extract_tail (35 :: t4) 1
              generalize B (35 :: t4) = b5 at *
              obtain ⟨⟨z0, z1, z2, z3, z4, z5, z6, z7, z8⟩, ⟨f0, f1, f2, f3, f4, f5, f6, f7, f8⟩⟩ := cells9 KU.out
              obtain ⟨⟨y0, y1, y2, y3, y4, y5, y6, y7, y8⟩, ⟨g0, g1, g2, g3, g4, g5, g6, g7, g8⟩⟩ := cells9 KZ.out
              have hv := split_is HSP0.out HSP1.out HP.out HSP3.out
              rw [HU.out] at hv
              subst hv
              go_wp2
              exact bodyPost_ret (results_cell_row rfl _ _ w.heap.size 24 _ (0, 0) _ rfl (put9 (blk_far ((blk_far ((blk_far ((blk_far (KZ.out) (p := ⟨w.heap.size + 1, 3, none⟩) (by show w.heap.size ≠ w.heap.size + 1; omega) _)) (p := ⟨w.heap.size + 1, 7, none⟩) (by show w.heap.size ≠ w.heap.size + 1; omega) _)) (p := ⟨w.heap.size + 1, 4, none⟩) (by show w.heap.size ≠ w.heap.size + 1; omega) _)) (p := ⟨w.heap.size + 1, 8, none⟩) (by show w.heap.size ≠ w.heap.size + 1; omega) _)) Tryd.underlying24 rfl (by kernel_rfl)) rfl ⟨rfl, below9 (Below.setCell (p := ⟨w.heap.size + 1, 8, none⟩) ((Below.setCell (p := ⟨w.heap.size + 1, 4, none⟩) ((Below.setCell (p := ⟨w.heap.size + 1, 7, none⟩) ((Below.setCell (p := ⟨w.heap.size + 1, 3, none⟩) (HB.out) (by show w.heap.size ≤ w.heap.size + 1; omega) _)) (by show w.heap.size ≤ w.heap.size + 1; omega) _)) (by show w.heap.size ≤ w.heap.size + 1; omega) _)) (by show w.heap.size ≤ w.heap.size + 1; omega) _)⟩
          · have HSP3 := Lib.hid (show sp3 (35 :: t3) = ([], false, 35 :: t3) from by unfold sp3; rw [if_neg (by simp)])
            have e1 : ((B (35 :: t3)).toList != ([] : List UInt8)) = true := by rw [B_toList]; rfl
            have e0 : ((B (35 :: t3)).toList == ([] : List UInt8)) = false := by rw [B_toList]; rfl
            have e2 : (B (35 :: t3)).toList.isEmpty = false := by rw [B_toList]; rfl
            have e3 : (!(B (35 :: t3)).toList.isEmpty) = true := by rw [e2]; rfl
            have i0 := eq_true (show (0 : Int) < ((B (35 :: t3)).size : Int) by rw [B_size, List.length_cons]; omega)
            have i2 := eq_true (show 0 < (B (35 :: t3)).size by rw [B_size, List.length_cons]; omega)
            have i4 := eq_true (show (1 : Int) ≤ ((B (35 :: t3)).size : Int) by rw [B_size, List.length_cons]; omega)
            have i6 := eq_true (show 1 ≤ (B (35 :: t3)).size by rw [B_size, List.length_cons]; omega)
            have i1 := bt_at (B (35 :: t3)) 0
            have i3 : bt (B (35 :: t3)) 0 = 35 := bt_head 35 t3
            have i7 : ∀ h : 0 < (B (35 :: t3)).size, ((((B (35 :: t3))[0]'h).toNat : Int)) = 35 := fun h => (i1 h).trans i3
            have i5 : (B (35 :: t3)).extract 1 (B (35 :: t3)).size = B t3 := extract_tail (35 :: t3) 1
            generalize B (35 :: t3) = b3 at *
            obtain ⟨⟨z0, z1, z2, z3, z4, z5, z6, z7, z8⟩, ⟨f0, f1, f2, f3, f4, f5, f6, f7, f8⟩⟩ := cells9 KU.out
            obtain ⟨⟨y0, y1, y2, y3, y4, y5, y6, y7, y8⟩, ⟨g0, g1, g2, g3, g4, g5, g6, g7, g8⟩⟩ := cells9 KZ.out
            have hv := split_is HSP0.out HSP1.out HP.out HSP3.out
            rw [HU.out] at hv
            subst hv
            go_wp2
            exact bodyPost_ret (results_cell_row rfl _ _ w.heap.size 24 _ (0, 0) _ rfl (put9 (blk_far ((blk_far ((blk_far (KZ.out) (p := ⟨w.heap.size + 1, 2, none⟩) (by show w.heap.size ≠ w.heap.size + 1; omega) _)) (p := ⟨w.heap.size + 1, 4, none⟩) (by show w.heap.size ≠ w.heap.size + 1; omega) _)) (p := ⟨w.heap.size + 1, 8, none⟩) (by show w.heap.size ≠ w.heap.size + 1; omega) _)) Tryd.underlying24 rfl (by kernel_rfl)) rfl ⟨rfl, below9 (Below.setCell (p := ⟨w.heap.size + 1, 8, none⟩) ((Below.setCell (p := ⟨w.heap.size + 1, 4, none⟩) ((Below.setCell (p := ⟨w.heap.size + 1, 2, none⟩) (HB.out) (by show w.heap.size ≤ w.heap.size + 1; omega) _)) (by show w.heap.size ≤ w.heap.size + 1; omega) _)) (by show w.heap.size ≤ w.heap.size + 1; omega) _)⟩
      · have m0 : decide ((1 : Int) < ((B l).size : Int)) = false := decide_eq_false (by rw [B_size]; omega)
        have m1 : decide (1 < (B l).size) = false := decide_eq_false (by rw [B_size]; omega)
        have HSP1 := Lib.hid (show sp1 l = ([], false, l) from by unfold sp1; rw [if_neg (by rw [short2 l (by omega)]; decide)])
        obtain ⟨⟨z0, z1, z2, z3, z4, z5, z6, z7, z8⟩, ⟨f0, f1, f2, f3, f4, f5, f6, f7, f8⟩⟩ := cells9 KU.out
        go_wp2_with fail
        clear z0 z1 z2 z3 z4 z5 z6 z7 z8 f0 f1 f2 f3 f4 f5 f6 f7 f8
        clear m0 m1 h1
        refine (first_calls [63, 35] l _ (by omega) (by decide)).mono ?_
        rintro z w21 ⟨rfl, h⟩
        obtain ⟨ku, kz, hb⟩ := after9 KU.out KZ.out HB.out h
        clear h KU KZ HB
        have KZ := Aside0.mk kz
        have KU := Aside0.mk ku
        have HB := Aside0.mk hb
        clear kz ku hb
        obtain ⟨s2, hs2⟩ : ∃ q, q = l := ⟨_, rfl⟩
        subst hs2
        have hl2 : s2.length < 4000000000 := by omega
        have hn3 := tw_sum [63, 35] s2
        have ht3 := tw_take [63, 35] s2
        have hd3 := tw_drop [63, 35] s2
        have hq3 := head3 s2
        have hz3 : (B s2).size = s2.length := B_size s2
        obtain ⟨x3, hx3⟩ : ∃ x : Int, ((s2.takeWhile (notIn [63, 35])).length : Int) = x := ⟨_, rfl⟩
        rw [hx3]
        obtain ⟨path, hpath⟩ : ∃ q, s2.takeWhile (notIn [63, 35]) = q := ⟨_, rfl⟩
        obtain ⟨s3, hs3⟩ : ∃ q, s2.dropWhile (notIn [63, 35]) = q := ⟨_, rfl⟩
        rw [hpath, hs3] at hn3
        rw [hpath] at ht3 hd3 hx3
        rw [hs3] at hd3 hq3
        have HP := Lib.hid (And.intro hpath hs3)
        clear hpath hs3
        have ea : (B s2).extract 0 x3.toNat = B path := by rw [extract_head, ← hx3, Int.toNat_natCast, ht3]
        have eb : (B s2).extract x3.toNat (B s2).size = B s3 := by rw [extract_tail, ← hx3, Int.toNat_natCast, hd3]
        have r0 := eq_true (show 0 ≤ x3 by omega)
        have r1 := eq_true (show x3 ≤ ((B s2).size : Int) by rw [hz3]; omega)
        have hl3 : s3.length ≤ s2.length := by omega
        clear hn3 ht3 hd3 hx3 hz3
        generalize B s2 = b2 at *
        rcases hq3 with rfl | ⟨t3, rfl | rfl⟩
        · have HSP3 := Lib.hid (show sp3 [] = ([], false, []) from rfl)
          have e0 : ((B []).toList == ([] : List UInt8)) = true := by rw [B_toList]; rfl
          have e1 : ((B []).toList != ([] : List UInt8)) = false := by rw [B_toList]; rfl
          have e2 : (B []).toList.isEmpty = true := by rw [B_toList]; rfl
          have e3 : (!(B []).toList.isEmpty) = false := by rw [e2]; rfl
          generalize B [] = b3 at e0 e1 e2 e3 eb ⊢
          obtain ⟨⟨z0, z1, z2, z3, z4, z5, z6, z7, z8⟩, ⟨f0, f1, f2, f3, f4, f5, f6, f7, f8⟩⟩ := cells9 KU.out
          obtain ⟨⟨y0, y1, y2, y3, y4, y5, y6, y7, y8⟩, ⟨g0, g1, g2, g3, g4, g5, g6, g7, g8⟩⟩ := cells9 KZ.out
          have hv := split_is HSP0.out HSP1.out HP.out HSP3.out
          rw [HU.out] at hv
          subst hv
          go_wp2
          exact bodyPost_ret (results_cell_row rfl _ _ w.heap.size 24 _ (0, 0) _ rfl (put9 (blk_far (KZ.out) (p := ⟨w.heap.size + 1, 2, none⟩) (by show w.heap.size ≠ w.heap.size + 1; omega) _)) Tryd.underlying24 rfl (by kernel_rfl)) rfl ⟨rfl, below9 (Below.setCell (p := ⟨w.heap.size + 1, 2, none⟩) (HB.out) (by show w.heap.size ≤ w.heap.size + 1; omega) _)⟩
        · have hs4 := tw_sum [35] t3
          have hq4 := head4 t3
          have ht4 := tw_take [35] t3
          have hd4 := tw_drop [35] t3
          have e1 : ((B (63 :: t3)).toList != ([] : List UInt8)) = true := by rw [B_toList]; rfl
          have e0 : ((B (63 :: t3)).toList == ([] : List UInt8)) = false := by rw [B_toList]; rfl
          have e2 : (B (63 :: t3)).toList.isEmpty = false := by rw [B_toList]; rfl
          have e3 : (!(B (63 :: t3)).toList.isEmpty) = true := by rw [e2]; rfl
          have i0 := eq_true (show (0 : Int) < ((B (63 :: t3)).size : Int) by rw [B_size, List.length_cons]; omega)
          have i2 := eq_true (show 0 < (B (63 :: t3)).size by rw [B_size, List.length_cons]; omega)
          have i1 := bt_at (B (63 :: t3)) 0
          have i3 : bt (B (63 :: t3)) 0 = 63 := bt_head 63 t3
          have i7 : ∀ h : 0 < (B (63 :: t3)).size, ((((B (63 :: t3))[0]'h).toNat : Int)) = 63 := fun h => (i1 h).trans i3
          obtain ⟨⟨z0, z1, z2, z3, z4, z5, z6, z7, z8⟩, ⟨f0, f1, f2, f3, f4, f5, f6, f7, f8⟩⟩ := cells9 KU.out
          go_wp2_with fail
          clear z0 z1 z2 z3 z4 z5 z6 z7 z8 f0 f1 f2 f3 f4 f5 f6 f7 f8
          clear e0 e1 e2 e3
          refine (first_calls [35] (63 :: t3) _ (by omega) (by decide)).mono ?_
          rintro z w22 ⟨rfl, h⟩
          obtain ⟨ku, kz, hb⟩ := after9 (blk_put (cs' := #[.string (⟨#[]⟩ : ByteArray), .string (⟨#[]⟩ : ByteArray), .string (B path), .string (⟨#[]⟩ : ByteArray), .string (⟨#[]⟩ : ByteArray), .bool false, .bool false, .bool false, .bool false]) (KU.out) 2 _ rfl) (blk_far (KZ.out) (p := ⟨w.heap.size + 1, 2, none⟩) (by show w.heap.size ≠ w.heap.size + 1; omega) _) (Below.setCell (p := ⟨w.heap.size + 1, 2, none⟩) (HB.out) (by show w.heap.size ≤ w.heap.size + 1; omega) _) h
          clear h KU KZ HB
          have KZ := Aside0.mk kz
          have KU := Aside0.mk ku
          have HB := Aside0.mk hb
          clear kz ku hb
          have htw : (63 :: t3).takeWhile (notIn [35]) = 63 :: t3.takeWhile (notIn [35]) := rfl
          rw [htw, List.length_cons]
          obtain ⟨x4, hx4⟩ : ∃ x : Int, (((t3.takeWhile (notIn [35])).length + 1 : Nat) : Int) = x := ⟨_, rfl⟩
          rw [hx4]
          obtain ⟨query, hquery⟩ : ∃ q, t3.takeWhile (notIn [35]) = q := ⟨_, rfl⟩
          obtain ⟨s4, hs4e⟩ : ∃ q, t3.dropWhile (notIn [35]) = q := ⟨_, rfl⟩
          have HSP3 := Lib.hid (show sp3 (63 :: t3) = (query, true, s4) from by unfold sp3; rw [if_pos (show (63 :: t3 : Bs).head? = some 63 from rfl), List.tail_cons, hquery, hs4e])
          rw [hquery, hs4e] at hs4
          rw [hquery] at ht4 hd4 hx4
          rw [hs4e] at hd4 hq4
          clear hquery hs4e htw
          have hz4 : (B (63 :: t3)).size = t3.length + 1 := by rw [B_size, List.length_cons]
          have ec : (B (63 :: t3)).extract 1 x4.toNat = B query := by rw [B_extract, ← hx4, Int.toNat_natCast]; simp only [List.take_succ_cons, List.drop_succ_cons, List.drop_zero]; rw [ht4]
          have ed : (B (63 :: t3)).extract x4.toNat (B (63 :: t3)).size = B s4 := by rw [extract_tail, ← hx4, Int.toNat_natCast, List.drop_succ_cons, hd4]
          have r2 := eq_true (show 1 ≤ x4 by omega)
          have r3 := eq_true (show x4 ≤ ((B (63 :: t3)).size : Int) by rw [hz4]; omega)
          have r4 := eq_true (show 0 ≤ x4 by omega)
          clear hs4 ht4 hd4 hx4 hz4
          generalize B (63 :: t3) = b4 at *
          rcases hq4 with rfl | ⟨t4, rfl⟩
          · have e0 : ((B []).toList == ([] : List UInt8)) = true := by rw [B_toList]; rfl
            have e1 : ((B []).toList != ([] : List UInt8)) = false := by rw [B_toList]; rfl
            have e2 : (B []).toList.isEmpty = true := by rw [B_toList]; rfl
            have e3 : (!(B []).toList.isEmpty) = false := by rw [e2]; rfl
            generalize B [] = b5 at e0 e1 e2 e3 ed ⊢
            obtain ⟨⟨z0, z1, z2, z3, z4, z5, z6, z7, z8⟩, ⟨f0, f1, f2, f3, f4, f5, f6, f7, f8⟩⟩ := cells9 KU.out
            obtain ⟨⟨y0, y1, y2, y3, y4, y5, y6, y7, y8⟩, ⟨g0, g1, g2, g3, g4, g5, g6, g7, g8⟩⟩ := cells9 KZ.out
            have hv := split_is HSP0.out HSP1.out HP.out HSP3.out
            rw [HU.out] at hv
            subst hv
            go_wp2
            exact bodyPost_ret (results_cell_row rfl _ _ w.heap.size 24 _ (0, 0) _ rfl (put9 (blk_far ((blk_far (KZ.out) (p := ⟨w.heap.size + 1, 3, none⟩) (by show w.heap.size ≠ w.heap.size + 1; omega) _)) (p := ⟨w.heap.size + 1, 7, none⟩) (by show w.heap.size ≠ w.heap.size + 1; omega) _)) Tryd.underlying24 rfl (by kernel_rfl)) rfl ⟨rfl, below9 (Below.setCell (p := ⟨w.heap.size + 1, 7, none⟩) ((Below.setCell (p := ⟨w.heap.size + 1, 3, none⟩) (HB.out) (by show w.heap.size ≤ w.heap.size + 1; omega) _)) (by show w.heap.size ≤ w.heap.size + 1; omega) _)⟩
          · have e1 : ((B (35 :: t4)).toList != ([] : List UInt8)) = true := by rw [B_toList]; rfl
            have e0 : ((B (35 :: t4)).toList == ([] : List UInt8)) = false := by rw [B_toList]; rfl
            have e2 : (B (35 :: t4)).toList.isEmpty = false := by rw [B_toList]; rfl
            have e3 : (!(B (35 :: t4)).toList.isEmpty) = true := by rw [e2]; rfl
            have i0 := eq_true (show (1 : Int) ≤ ((B (35 :: t4)).size : Int) by rw [B_size, List.length_cons]; omega)
            have i2 := eq_true (show 1 ≤ (B (35 :: t4)).size by rw [B_size, List.length_cons]; omega)
            have i1 : (B (35 :: t4)).extract 1 (B (35 :: t4)).size = B t4 := extract_tail (35 :: t4) 1
            generalize B (35 :: t4) = b5 at *
            obtain ⟨⟨z0, z1, z2, z3, z4, z5, z6, z7, z8⟩, ⟨f0, f1, f2, f3, f4, f5, f6, f7, f8⟩⟩ := cells9 KU.out
            obtain ⟨⟨y0, y1, y2, y3, y4, y5, y6, y7, y8⟩, ⟨g0, g1, g2, g3, g4, g5, g6, g7, g8⟩⟩ := cells9 KZ.out
            have hv := split_is HSP0.out HSP1.out HP.out HSP3.out
            rw [HU.out] at hv
            subst hv
            go_wp2
            exact bodyPost_ret (results_cell_row rfl _ _ w.heap.size 24 _ (0, 0) _ rfl (put9 (blk_far ((blk_far ((blk_far ((blk_far (KZ.out) (p := ⟨w.heap.size + 1, 3, none⟩) (by show w.heap.size ≠ w.heap.size + 1; omega) _)) (p := ⟨w.heap.size + 1, 7, none⟩) (by show w.heap.size ≠ w.heap.size + 1; omega) _)) (p := ⟨w.heap.size + 1, 4, none⟩) (by show w.heap.size ≠ w.heap.size + 1; omega) _)) (p := ⟨w.heap.size + 1, 8, none⟩) (by show w.heap.size ≠ w.heap.size + 1; omega) _)) Tryd.underlying24 rfl (by kernel_rfl)) rfl ⟨rfl, below9 (Below.setCell (p := ⟨w.heap.size + 1, 8, none⟩) ((Below.setCell (p := ⟨w.heap.size + 1, 4, none⟩) ((Below.setCell (p := ⟨w.heap.size + 1, 7, none⟩) ((Below.setCell (p := ⟨w.heap.size + 1, 3, none⟩) (HB.out) (by show w.heap.size ≤ w.heap.size + 1; omega) _)) (by show w.heap.size ≤ w.heap.size + 1; omega) _)) (by show w.heap.size ≤ w.heap.size + 1; omega) _)) (by show w.heap.size ≤ w.heap.size + 1; omega) _)⟩
        · have HSP3 := Lib.hid (show sp3 (35 :: t3) = ([], false, 35 :: t3) from by unfold sp3; rw [if_neg (by simp)])
          have e1 : ((B (35 :: t3)).toList != ([] : List UInt8)) = true := by rw [B_toList]; rfl
          have e0 : ((B (35 :: t3)).toList == ([] : List UInt8)) = false := by rw [B_toList]; rfl
          have e2 : (B (35 :: t3)).toList.isEmpty = false := by rw [B_toList]; rfl
          have e3 : (!(B (35 :: t3)).toList.isEmpty) = true := by rw [e2]; rfl
          have i0 := eq_true (show (0 : Int) < ((B (35 :: t3)).size : Int) by rw [B_size, List.length_cons]; omega)
          have i2 := eq_true (show 0 < (B (35 :: t3)).size by rw [B_size, List.length_cons]; omega)
          have i4 := eq_true (show (1 : Int) ≤ ((B (35 :: t3)).size : Int) by rw [B_size, List.length_cons]; omega)
          have i6 := eq_true (show 1 ≤ (B (35 :: t3)).size by rw [B_size, List.length_cons]; omega)
          have i1 := bt_at (B (35 :: t3)) 0
          have i3 : bt (B (35 :: t3)) 0 = 35 := bt_head 35 t3
          have i7 : ∀ h : 0 < (B (35 :: t3)).size, ((((B (35 :: t3))[0]'h).toNat : Int)) = 35 := fun h => (i1 h).trans i3
          have i5 : (B (35 :: t3)).extract 1 (B (35 :: t3)).size = B t3 := extract_tail (35 :: t3) 1
          generalize B (35 :: t3) = b3 at *
          obtain ⟨⟨z0, z1, z2, z3, z4, z5, z6, z7, z8⟩, ⟨f0, f1, f2, f3, f4, f5, f6, f7, f8⟩⟩ := cells9 KU.out
          obtain ⟨⟨y0, y1, y2, y3, y4, y5, y6, y7, y8⟩, ⟨g0, g1, g2, g3, g4, g5, g6, g7, g8⟩⟩ := cells9 KZ.out
          have hv := split_is HSP0.out HSP1.out HP.out HSP3.out
          rw [HU.out] at hv
          subst hv
          go_wp2
          exact bodyPost_ret (results_cell_row rfl _ _ w.heap.size 24 _ (0, 0) _ rfl (put9 (blk_far ((blk_far ((blk_far (KZ.out) (p := ⟨w.heap.size + 1, 2, none⟩) (by show w.heap.size ≠ w.heap.size + 1; omega) _)) (p := ⟨w.heap.size + 1, 4, none⟩) (by show w.heap.size ≠ w.heap.size + 1; omega) _)) (p := ⟨w.heap.size + 1, 8, none⟩) (by show w.heap.size ≠ w.heap.size + 1; omega) _)) Tryd.underlying24 rfl (by kernel_rfl)) rfl ⟨rfl, below9 (Below.setCell (p := ⟨w.heap.size + 1, 8, none⟩) ((Below.setCell (p := ⟨w.heap.size + 1, 4, none⟩) ((Below.setCell (p := ⟨w.heap.size + 1, 2, none⟩) (HB.out) (by show w.heap.size ≤ w.heap.size + 1; omega) _)) (by show w.heap.size ≤ w.heap.size + 1; omega) _)) (by show w.heap.size ≤ w.heap.size + 1; omega) _)⟩
def broadsheetref12_Split.f (a0 : ByteArray) : Option UriB := if a0.size < 4000000000 then some (splitV (L a0)) else none
theorem broadsheetref12_Split.calls (a0 : ByteArray) (r1 r2 r3 r4 r5 : ByteArray) (r6 r7 r8 r9 : Bool) (w : World) (h : broadsheetref12_Split.f a0 = some (r1, r2, r3, r4, r5, r6, r7, r8, r9)) :
    Calls Tryd.prog 20 #[.string a0] w fun e w' => e = .returned (.agg #[.string r1, .string r2, .string r3, .string r4, .string r5, .bool r6, .bool r7, .bool r8, .bool r9]) ∧ Below w.heap.size w w' := by
  unfold broadsheetref12_Split.f at h
  split at h
  · rename_i hs
    have e := Option.some.inj h
    obtain ⟨l, rfl⟩ := B_eta a0
    have hl : l.length < 4000000000 := hs
    have e2 : splitV l = (r1, r2, r3, r4, r5, r6, r7, r8, r9) := e
    refine (rsplit_calls l w hl).mono ?_
    rintro x w' ⟨rfl, hb⟩
    rw [e2]
    exact ⟨rfl, hb⟩
  · cases h
end Go.Proofs.YtldancekpigkaaaDoor.X
