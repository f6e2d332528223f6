/- The law LocatorBases, walked by hand: what has a scheme is resolved as it is, but for dots; a reference to nothing is its base, but for the fragment. -/
import Derived.Test.YtldancekpigkaaaDoorXAwake
import Derived.Test.YtldancekpigkaaaDoorXCopy
import Derived.Test.YtldancekpigkaaaDoorPl9
import Derived.Test.YtldancekpigkaaaDoorRowData
import Derived.BigQuiet
import Derived.Deep.QuietTactic
namespace Go.Proofs.YtldancekpigkaaaDoor.X
open Go.RowKit Go.Shelf Go.Proofs.YtldancekpigkaaaDoorW.PrintWords Go.Proofs.YtldancekpigkaaaDoorW.PrintLast Go.Proofs.YtldancekpigkaaaDoorW.PrintMore Go.Proofs.YtldancekpigkaaaDoor.Pl
open Go.Proofs.YtldancekpigkaaaDoor.U (B Bs B_size B_eta)
attribute [local go_sem high] eqU

theorem res_scheme (k : Nat) (b0 b1 b2 b3 b4 : ByteArray) (b5 b6 b7 b8 : Bool) (r0 r1 r2 r3 r4 : ByteArray) (r6 r7 r8 : Bool) (d : ByteArray) (hd : locator_Dots.f k r2 = some d) :
    locator_Resolve.f k b0 b1 b2 b3 b4 b5 b6 b7 b8 r0 r1 r2 r3 r4 true r6 r7 r8 = some (r0, r1, d, r3, r4, true, r6, r7, r8) := by
  unfold locator_Resolve.f
  rw [if_pos rfl, hd]
  rfl
theorem res_none (k : Nat) (b0 b1 b2 b3 b4 : ByteArray) (b5 b6 b7 b8 : Bool) (r4 : ByteArray) (r8 : Bool) :
    locator_Resolve.f k b0 b1 b2 b3 b4 b5 b6 b7 b8 ⟨#[]⟩ ⟨#[]⟩ ⟨#[]⟩ ⟨#[]⟩ r4 false false false r8 = some (b0, b1, b2, b3, r4, b5, b6, b7, r8) := by
  unfold locator_Resolve.f
  rw [if_neg (by decide), if_neg (by decide), if_pos (show (⟨#[]⟩ : ByteArray).toList = [] from U.B_toList []), if_neg (by decide)]
theorem bases_tab : rtab .any (cpOps 35 36 37 38 39 40 3 2 4 8 "law.go:95") = cpT := by kernel_rfl
set_option maxHeartbeats 2000000 in
set_option maxRecDepth 100000 in
theorem bases_calls (b0 b1 b2 b3 b4 : ByteArray) (b5 b6 b7 b8 : Bool) (r0 r1 r2 r3 r4 : ByteArray) (r5 r6 r7 r8 : Bool) (sb sr : Bool) (d : ByteArray) (k : Nat)
    (hsb : broadsheetlaw12_short.f b0 b1 b2 b3 b4 b5 b6 b7 b8 = some sb) (hsr : broadsheetlaw12_short.f r0 r1 r2 r3 r4 r5 r6 r7 r8 = some sr)
    (hd : sr = true → locator_Dots.f k r2 = some d) (w : World) (hG : Glob w) :
    Calls Tryd.prog 8 #[.agg (uriC b0 b1 b2 b3 b4 b5 b6 b7 b8), .agg (uriC r0 r1 r2 r3 r4 r5 r6 r7 r8)] w fun e w' => e = .returned (.bool true) ∧ Below w.heap.size w w' := by
  have HG := Lib.hid hG
  clear hG
  have hu24 := Tryd.underlying24
  have kb0 : ((w.alloc (.cells (uriC b0 b1 b2 b3 b4 b5 b6 b7 b8) 24)).alloc (.cells (uriC r0 r1 r2 r3 r4 r5 r6 r7 r8) 24)).heap[w.heap.size]? = some (.cells (uriC b0 b1 b2 b3 b4 b5 b6 b7 b8) 24 (0, 0)) := blk_alloc (blk_new w _) _
  have kr0 : ((w.alloc (.cells (uriC b0 b1 b2 b3 b4 b5 b6 b7 b8) 24)).alloc (.cells (uriC r0 r1 r2 r3 r4 r5 r6 r7 r8) 24)).heap[w.heap.size + 1]? = some (.cells (uriC r0 r1 r2 r3 r4 r5 r6 r7 r8) 24 (0, 0)) := by
    have := blk_new (w.alloc (.cells (uriC b0 b1 b2 b3 b4 b5 b6 b7 b8) 24)) (.cells (uriC r0 r1 r2 r3 r4 r5 r6 r7 r8) 24)
    rwa [World.size_alloc] at this
  have hb0 : Below w.heap.size w ((w.alloc (.cells (uriC b0 b1 b2 b3 b4 b5 b6 b7 b8) 24)).alloc (.cells (uriC r0 r1 r2 r3 r4 r5 r6 r7 r8) 24)) := ((Below.refl _ w).alloc (Nat.le_refl _) _).alloc (by rw [World.size_alloc]; omega) _
  have KB := Aside0.mk kb0
  have KR := Aside0.mk kr0
  have HB := Aside0.mk hb0
  clear kb0 kr0 hb0
  go_enter Tryd.func8, Tryd.ntmps8
  go_wp2_with fail
  refine (awake_calls _ (HG.out.below HB.out)).mono ?_
  rintro x w1 ⟨rfl, h⟩
  have kb := blk_below KB.out h
  have kr := blk_below KR.out h
  have hb := below_step HB.out h
  clear KB KR HB h
  have KB := Aside0.mk kb
  have KR := Aside0.mk kr
  have HB := Aside0.mk hb
  clear kb kr hb
  obtain ⟨⟨y0, y1, y2, y3, y4, y5, y6, y7, y8⟩, _⟩ := cells9 KB.out
  obtain ⟨⟨z0, z1, z2, z3, z4, z5, z6, z7, z8⟩, ⟨f0, f1, f2, f3, f4, f5, f6, f7, f8⟩⟩ := cells9 KR.out
  go_wp2_with fail
  refine (broadsheetlaw12_short.calls b0 b1 b2 b3 b4 b5 b6 b7 b8 _ _ hsb).mono ?_
  clear y0 y1 y2 y3 y4 y5 y6 y7 y8 z0 z1 z2 z3 z4 z5 z6 z7 z8 f0 f1 f2 f3 f4 f5 f6 f7 f8
  rintro x w2 ⟨rfl, h⟩
  have kb := blk_below KB.out h
  have kr := blk_below KR.out h
  have hb := below_step HB.out h
  clear KB KR HB h
  have KB := Aside0.mk kb
  have KR := Aside0.mk kr
  have HB := Aside0.mk hb
  clear kb kr hb
  obtain ⟨⟨z0, z1, z2, z3, z4, z5, z6, z7, z8⟩, ⟨f0, f1, f2, f3, f4, f5, f6, f7, f8⟩⟩ := cells9 KR.out
  cases sb
  · go_wp2
    go_ret
    exact ⟨rfl, HB.out⟩
  · go_wp2_with fail
    clear z0 z1 z2 z3 z4 z5 z6 z7 z8 f0 f1 f2 f3 f4 f5 f6 f7 f8
    refine (broadsheetlaw12_short.calls r0 r1 r2 r3 r4 r5 r6 r7 r8 _ _ hsr).mono ?_
    rintro x w3 ⟨rfl, h⟩
    have kb := blk_below KB.out h
    have kr := blk_below KR.out h
    have hb := below_step HB.out h
    clear KB KR HB h
    have KB := Aside0.mk kb
    have KR := Aside0.mk kr
    have HB := Aside0.mk hb
    clear kb kr hb
    cases sr
    · go_wp2
      go_ret
      exact ⟨rfl, HB.out⟩
    · replace hd := hd rfl
      have k1 : (w3.setCell ⟨w.heap.size + 1, 5, none⟩ (.bool true)).heap[w.heap.size + 1]? = some (.cells (uriC r0 r1 r2 r3 r4 true r6 r7 r8) 24 (0, 0)) := blk_put KR.out 5 _ rfl
      have k2 : (w3.setCell ⟨w.heap.size + 1, 5, none⟩ (.bool true)).heap[w.heap.size]? = some (.cells (uriC b0 b1 b2 b3 b4 b5 b6 b7 b8) 24 (0, 0)) := blk_far KB.out (p := ⟨w.heap.size + 1, 5, none⟩) (by show w.heap.size ≠ w.heap.size + 1; omega) _
      obtain ⟨⟨y0, y1, y2, y3, y4, y5, y6, y7, y8⟩, _⟩ := cells9 KB.out
      obtain ⟨⟨z0, z1, z2, z3, z4, z5, z6, z7, z8⟩, ⟨f0, f1, f2, f3, f4, f5, f6, f7, f8⟩⟩ := cells9 KR.out
      go_wp2_with fail
      clear y0 y1 y2 y3 y4 y5 y6 y7 y8 z0 z1 z2 z3 z4 z5 z6 z7 z8 f0 f1 f2 f3 f4 f5 f6 f7 f8
      have hb := Below.setCell (p := ⟨w.heap.size + 1, 5, none⟩) HB.out (by show w.heap.size ≤ w.heap.size + 1; omega) (.bool true)
      clear KB KR HB
      refine (locator_Resolve.calls k _ _ _ _ _ _ _ _ _ _ _ _ _ _ _ _ _ _ _ _ _ _ _ _ _ _ _ _ (res_scheme k b0 b1 b2 b3 b4 b5 b6 b7 b8 r0 r1 r2 r3 r4 r6 r7 r8 d hd)).mono ?_
      rintro x w4 ⟨rfl, h⟩
      have kb := blk_below k2 h
      have kr := blk_below k1 h
      have hb := below_step hb h
      clear k1 k2 h
      have kx := blk_new w4 (.cells (uriC r0 r1 d r3 r4 true r6 r7 r8) 24)
      have hx1 := blk_lt kb
      have hx2 := blk_lt kr
      obtain ⟨gx, hgx⟩ : ∃ g, w4.heap.size = g := ⟨_, rfl⟩
      rw [hgx] at hx1 hx2 kx
      have KB := Aside0.mk (blk_alloc kb (.cells (uriC r0 r1 d r3 r4 true r6 r7 r8) 24))
      have KR := Aside0.mk (blk_alloc kr (.cells (uriC r0 r1 d r3 r4 true r6 r7 r8) 24))
      have KX := Aside0.mk kx
      have HB := Aside0.mk (hb.alloc hb.size (.cells (uriC r0 r1 d r3 r4 true r6 r7 r8) 24))
      clear kb kr kx hb
      obtain ⟨⟨y0, y1, y2, y3, y4, y5, y6, y7, y8⟩, _⟩ := cells9 KB.out
      obtain ⟨⟨z0, z1, z2, z3, z4, z5, z6, z7, z8⟩, ⟨f0, f1, f2, f3, f4, f5, f6, f7, f8⟩⟩ := cells9 KR.out
      go_wp2_with fail
      clear y0 y1 y2 y3 y4 y5 y6 y7 y8 z0 z1 z2 z3 z4 z5 z6 z7 z8 f0 f1 f2 f3 f4 f5 f6 f7 f8
      refine (locator_Resolve.calls k _ _ _ _ _ _ _ _ _ _ _ _ _ _ _ _ _ _ _ _ _ _ _ _ _ _ _ _ (res_none k b0 b1 b2 b3 b4 b5 b6 b7 b8 r4 r8)).mono ?_
      rintro x w5 ⟨rfl, h⟩
      have kb := blk_below KB.out h
      have kr := blk_below KR.out h
      have kx := blk_below KX.out h
      have hb := below_step HB.out h
      clear KB KR KX HB h
      have ky := blk_new w5 (.cells (uriC b0 b1 b2 b3 r4 b5 b6 b7 r8) 24)
      have hy1 := blk_lt kb
      have hy2 := blk_lt kr
      have hy3 := blk_lt kx
      obtain ⟨gy, hgy⟩ : ∃ g, w5.heap.size = g := ⟨_, rfl⟩
      rw [hgy] at hy1 hy2 hy3 ky
      have KB := Aside0.mk (blk_alloc kb (.cells (uriC b0 b1 b2 b3 r4 b5 b6 b7 r8) 24))
      have KR := Aside0.mk (blk_alloc kr (.cells (uriC b0 b1 b2 b3 r4 b5 b6 b7 r8) 24))
      have KX := Aside0.mk (blk_alloc kx (.cells (uriC b0 b1 b2 b3 r4 b5 b6 b7 r8) 24))
      have KY := Aside0.mk ky
      have HB := Aside0.mk (hb.alloc hb.size (.cells (uriC b0 b1 b2 b3 r4 b5 b6 b7 r8) 24))
      clear kb kr kx ky hb
      obtain ⟨⟨z0, z1, z2, z3, z4, z5, z6, z7, z8⟩, ⟨f0, f1, f2, f3, f4, f5, f6, f7, f8⟩⟩ := cells9 KR.out
      go_wp2_with fail
      clear z0 z1 z2 z3 z4 z5 z6 z7 z8 f0 f1 f2 f3 f4 f5 f6 f7 f8
      refine (locator_Dots.calls k r2 d _ hd).mono ?_
      rintro x w6 ⟨rfl, h⟩
      have kb := blk_below KB.out h
      have kr := blk_below KR.out h
      have kx := blk_below KX.out h
      have ky := blk_below KY.out h
      have hb := below_step HB.out h
      clear KB KR KX KY HB h
      have KB := Aside0.mk (blk_far kb (p := ⟨w.heap.size + 1, 2, none⟩) (by show w.heap.size ≠ w.heap.size + 1; omega) (.string d))
      have KR := Aside0.mk (show (w6.setCell ⟨w.heap.size + 1, 2, none⟩ (.string d)).heap[w.heap.size + 1]? = some (.cells (uriC r0 r1 d r3 r4 true r6 r7 r8) 24 (0, 0)) from blk_put kr 2 _ rfl)
      have KX := Aside0.mk (blk_far kx (p := ⟨w.heap.size + 1, 2, none⟩) (by show gx ≠ w.heap.size + 1; omega) (.string d))
      have KY := Aside0.mk (blk_far ky (p := ⟨w.heap.size + 1, 2, none⟩) (by show gy ≠ w.heap.size + 1; omega) (.string d))
      have HB := Aside0.mk (Below.setCell (p := ⟨w.heap.size + 1, 2, none⟩) hb (by show w.heap.size ≤ w.heap.size + 1; omega) (.string d))
      obtain ⟨⟨z0, z1, z2, z3, z4, z5, z6, z7, z8⟩, ⟨f0, f1, f2, f3, f4, f5, f6, f7, f8⟩⟩ := cells9 kr
      clear kb kr kx ky hb
      go_wp2_with fail
      clear z0 z1 z2 z3 z4 z5 z6 z7 z8 f0 f1 f2 f3 f4 f5 f6 f7 f8
      refine copy2 (t1 := 35) (t2 := 36) (t3 := 37) (t4 := 38) (t5 := 39) (t6 := 40) (s := 3) (d := 2) (i := 4) (j := 8) (p := "law.go:95") (v1 := r4) (v2 := r8) bases_tab (fun _ _ _ _ _ h => h) (by decide) (by decide) (by decide) (by rfl) (by rfl) rfl rfl (by omega) KR.out KB.out rfl rfl rfl ?_
      have kb : ((((w6.setCell ⟨w.heap.size + 1, 2, none⟩ (.string d)).drew).setCell ⟨w.heap.size, 4, none⟩ (.string r4)).setCell ⟨w.heap.size, 8, none⟩ (.bool r8)).heap[w.heap.size]? = some (.cells (uriC b0 b1 b2 b3 r4 b5 b6 b7 r8) 24 (0, 0)) := blk_put (blk_put (blk_drew KB.out) 4 _ rfl) 8 _ rfl
      have kr := blk_far (blk_far (blk_drew KR.out) (p := ⟨w.heap.size, 4, none⟩) (by show w.heap.size + 1 ≠ w.heap.size; omega) (.string r4)) (p := ⟨w.heap.size, 8, none⟩) (by show w.heap.size + 1 ≠ w.heap.size; omega) (.bool r8)
      have kx := blk_far (blk_far (blk_drew KX.out) (p := ⟨w.heap.size, 4, none⟩) (by show gx ≠ w.heap.size; omega) (.string r4)) (p := ⟨w.heap.size, 8, none⟩) (by show gx ≠ w.heap.size; omega) (.bool r8)
      have ky := blk_far (blk_far (blk_drew KY.out) (p := ⟨w.heap.size, 4, none⟩) (by show gy ≠ w.heap.size; omega) (.string r4)) (p := ⟨w.heap.size, 8, none⟩) (by show gy ≠ w.heap.size; omega) (.bool r8)
      have hb : Below w.heap.size w ((((w6.setCell ⟨w.heap.size + 1, 2, none⟩ (.string d)).drew).setCell ⟨w.heap.size, 4, none⟩ (.string r4)).setCell ⟨w.heap.size, 8, none⟩ (.bool r8)) := Below.setCell (p := ⟨w.heap.size, 8, none⟩) (Below.setCell (p := ⟨w.heap.size, 4, none⟩) (below_drew1 HB.out) (Nat.le_refl _) _) (Nat.le_refl _) _
      clear KB KR KX KY HB
      generalize (((w6.setCell ⟨w.heap.size + 1, 2, none⟩ (.string d)).drew).setCell ⟨w.heap.size, 4, none⟩ (.string r4)).setCell ⟨w.heap.size, 8, none⟩ (.bool r8) = w7 at kb kr kx ky hb ⊢
      simp only [Act.put, List.setIfInBounds_toArray, List.set_cons_zero, List.set_cons_succ]
      have HB := Aside0.mk hb
      obtain ⟨⟨y0, y1, y2, y3, y4, y5, y6, y7, y8⟩, _⟩ := cells9 kb
      obtain ⟨⟨z0, z1, z2, z3, z4, z5, z6, z7, z8⟩, _⟩ := cells9 kr
      obtain ⟨⟨u0, u1, u2, u3, u4, u5, u6, u7, u8⟩, _⟩ := cells9 kx
      obtain ⟨⟨v0, v1, v2, v3, v4, v5, v6, v7, v8⟩, _⟩ := cells9 ky
      clear kb kr kx ky hb
      have e0 := beq_self_eq_true r0.toList
      have e1 := beq_self_eq_true r1.toList
      have e2 := beq_self_eq_true d.toList
      have e3 := beq_self_eq_true r3.toList
      have e4 := beq_self_eq_true r4.toList
      have g0 := beq_self_eq_true b0.toList
      have g1 := beq_self_eq_true b1.toList
      have g2 := beq_self_eq_true b2.toList
      have g3 := beq_self_eq_true b3.toList
      have l6 := beq_self_eq_true r6
      have l7 := beq_self_eq_true r7
      have l8 := beq_self_eq_true r8
      have l5 := beq_self_eq_true b5
      have l9 := beq_self_eq_true b6
      have l10 := beq_self_eq_true b7
      go_wp2
      go_ret
      exact ⟨by first | rfl | simp, HB.out⟩
end Go.Proofs.YtldancekpigkaaaDoor.X
