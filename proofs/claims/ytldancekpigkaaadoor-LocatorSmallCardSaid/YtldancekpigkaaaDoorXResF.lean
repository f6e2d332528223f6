/- locator.Resolve walked by hand (in place of the printed text). locator.Resolve in the printer's shape, out of the five roads that XRes walks. -/
import Derived.Test.YtldancekpigkaaaDoorXCopy
import Derived.Test.YtldancekpigkaaaDoorPl2
import Derived.Test.YtldancekpigkaaaDoorPl3
namespace Go.Proofs.YtldancekpigkaaaDoor.X
open Go.RowKit Go.Shelf Go.Proofs.YtldancekpigkaaaDoorW.PrintWords Go.Proofs.YtldancekpigkaaaDoorW.PrintLast Go.Proofs.YtldancekpigkaaaDoorW.PrintMore Go.Proofs.YtldancekpigkaaaDoor.Pl
set_option linter.unusedVariables false
theorem below9' {w0 w : World} {b g : Nat} {v0 v1 v2 v3 v4 v5 v6 v7 v8 : Value} (h : Below b w0 w) (hg : b ≤ g) : Below b w0 (((((((((w.setCell ⟨g, 0, none⟩ v0).setCell ⟨g, 1, none⟩ v1).setCell ⟨g, 2, none⟩ v2).setCell ⟨g, 3, none⟩ v3).setCell ⟨g, 4, none⟩ v4).setCell ⟨g, 5, none⟩ v5).setCell ⟨g, 6, none⟩ v6).setCell ⟨g, 7, none⟩ v7).setCell ⟨g, 8, none⟩ v8) := by
  refine Below.setCell (p := ⟨g, 8, none⟩) ?_ hg _; refine Below.setCell (p := ⟨g, 7, none⟩) ?_ hg _; refine Below.setCell (p := ⟨g, 6, none⟩) ?_ hg _; refine Below.setCell (p := ⟨g, 5, none⟩) ?_ hg _; refine Below.setCell (p := ⟨g, 4, none⟩) ?_ hg _; refine Below.setCell (p := ⟨g, 3, none⟩) ?_ hg _; refine Below.setCell (p := ⟨g, 2, none⟩) ?_ hg _; refine Below.setCell (p := ⟨g, 1, none⟩) ?_ hg _; refine Below.setCell (p := ⟨g, 0, none⟩) ?_ hg _; exact h
/-- Three blocks that are made one behind the other. -/
theorem three_new (w : World) (o1 o2 o3 : Obj) : (((w.alloc o1).alloc o2).alloc o3).heap[w.heap.size]? = some o1 ∧ (((w.alloc o1).alloc o2).alloc o3).heap[w.heap.size + 1]? = some o2 ∧ (((w.alloc o1).alloc o2).alloc o3).heap[w.heap.size + 2]? = some o3 ∧ Below w.heap.size w (((w.alloc o1).alloc o2).alloc o3) := by
  have h2 := blk_new (w.alloc o1) o2
  have h3 := blk_new ((w.alloc o1).alloc o2) o3
  rw [World.size_alloc] at h2
  rw [World.size_alloc, World.size_alloc] at h3
  exact ⟨blk_alloc (blk_alloc (blk_new w _) _) _, blk_alloc h2 _, h3, (((Below.refl _ w).alloc (Nat.le_refl _) _).alloc (by rw [World.size_alloc]; omega) _).alloc (by rw [World.size_alloc, World.size_alloc]; omega) _⟩
theorem res_tab4 : rtab .any (cpOps 12 13 14 15 16 17 2 3 0 5 "locator.go:150") = cpT := by kernel_rfl
set_option maxHeartbeats 2000000 in
set_option maxRecDepth 100000 in
theorem resolve_scheme (k : Nat) (b0 b1 b2 b3 b4 : ByteArray) (b5 b6 b7 b8 : Bool) (r0 r1 r2 r3 r4 : ByteArray) (r6 r7 r8 : Bool) (d : ByteArray) (hd : locator_Dots.f k r2 = some d) (w : World) :
    Calls Tryd.prog 18 #[.agg (uriC b0 b1 b2 b3 b4 b5 b6 b7 b8), .agg (uriC r0 r1 r2 r3 r4 true r6 r7 r8)] w fun e w' => e = .returned (.agg (uriC r0 r1 d r3 r4 true r6 r7 r8)) ∧ Below w.heap.size w w' := by
  have hu24 := Tryd.underlying24
  obtain ⟨kb, kr, kz, hb⟩ := three_new w (.cells (uriC b0 b1 b2 b3 b4 b5 b6 b7 b8) 24) (.cells (uriC r0 r1 r2 r3 r4 true r6 r7 r8) 24) (.cells zeroC 24)
  have KZ := Aside0.mk kz
  have KR := Aside0.mk kr
  have HB := Aside0.mk hb
  obtain ⟨⟨z0, z1, z2, z3, z4, z5, z6, z7, z8⟩, _⟩ := cells9 kr
  clear kb kr kz hb
  go_enter Tryd.func18, Tryd.ntmps18
  go_wp2_with fail
  clear z0 z1 z2 z3 z4 z5 z6 z7 z8
  refine (locator_Dots.calls k r2 d _ hd).mono ?_
  rintro x w1 ⟨rfl, h⟩
  have kz := blk_below KZ.out h
  have kr := blk_below KR.out h
  have hb := below_step HB.out h
  clear KZ KR HB h
  have KZ := Aside0.mk (blk_far kz (p := ⟨w.heap.size + 1, 2, none⟩) (by show w.heap.size + 2 ≠ w.heap.size + 1; omega) (.string d))
  have KR := Aside0.mk (show (w1.setCell ⟨w.heap.size + 1, 2, none⟩ (.string d)).heap[w.heap.size + 1]? = some (.cells (uriC r0 r1 d r3 r4 true r6 r7 r8) 24 (0, 0)) from blk_put kr 2 _ rfl)
  have HB := Aside0.mk (Below.setCell (p := ⟨w.heap.size + 1, 2, none⟩) hb (by show w.heap.size ≤ w.heap.size + 1; omega) (.string d))
  obtain ⟨⟨z0, z1, z2, z3, z4, z5, z6, z7, z8⟩, ⟨f0, f1, f2, f3, f4, f5, f6, f7, f8⟩⟩ := cells9 kr
  obtain ⟨⟨y0, y1, y2, y3, y4, y5, y6, y7, y8⟩, ⟨g0, g1, g2, g3, g4, g5, g6, g7, g8⟩⟩ := cells9 kz
  clear kr kz hb
  go_wp2
  exact bodyPost_ret (results_cell_row rfl _ _ (w.heap.size + 2) 24 _ (0, 0) _ rfl (put9 KZ.out) Tryd.underlying24 rfl (by kernel_rfl)) rfl ⟨rfl, below9' HB.out (by omega)⟩
theorem res_tab8 : rtab .any (cpOps 25 26 27 28 29 30 2 3 1 6 "locator.go:155") = cpT := by kernel_rfl
theorem res_tab14 : rtab .any (cpOps 47 48 49 50 51 52 2 3 3 7 "locator.go:162") = cpT := by kernel_rfl
/-- What lies in memory behind a copy of two fields from the base's parts to the reference's. -/
theorem after_copy {w0 w : World} {cb cr cr' cz : Array Value} {i j : Nat} {u v : Value} (kb : w.heap[w0.heap.size]? = some (.cells cb 24 (0, 0))) (kr : w.heap[w0.heap.size + 1]? = some (.cells cr 24 (0, 0))) (kz : w.heap[w0.heap.size + 2]? = some (.cells cz 24 (0, 0))) (hb : Below w0.heap.size w0 w) (e : (cr.setIfInBounds i u).setIfInBounds j v = cr') :
    ((w.drew.setCell ⟨w0.heap.size + 1, i, none⟩ u).setCell ⟨w0.heap.size + 1, j, none⟩ v).heap[w0.heap.size]? = some (.cells cb 24 (0, 0)) ∧ ((w.drew.setCell ⟨w0.heap.size + 1, i, none⟩ u).setCell ⟨w0.heap.size + 1, j, none⟩ v).heap[w0.heap.size + 1]? = some (.cells cr' 24 (0, 0)) ∧ ((w.drew.setCell ⟨w0.heap.size + 1, i, none⟩ u).setCell ⟨w0.heap.size + 1, j, none⟩ v).heap[w0.heap.size + 2]? = some (.cells cz 24 (0, 0)) ∧ Below w0.heap.size w0 ((w.drew.setCell ⟨w0.heap.size + 1, i, none⟩ u).setCell ⟨w0.heap.size + 1, j, none⟩ v) :=
  ⟨blk_far (blk_far (blk_drew kb) (p := ⟨w0.heap.size + 1, i, none⟩) (by show w0.heap.size ≠ w0.heap.size + 1; omega) u) (p := ⟨w0.heap.size + 1, j, none⟩) (by show w0.heap.size ≠ w0.heap.size + 1; omega) v,
    blk_put (blk_set (blk_drew kr) i u) j v e,
    blk_far (blk_far (blk_drew kz) (p := ⟨w0.heap.size + 1, i, none⟩) (by show w0.heap.size + 2 ≠ w0.heap.size + 1; omega) u) (p := ⟨w0.heap.size + 1, j, none⟩) (by show w0.heap.size + 2 ≠ w0.heap.size + 1; omega) v,
    Below.setCell (p := ⟨w0.heap.size + 1, j, none⟩) (Below.setCell (p := ⟨w0.heap.size + 1, i, none⟩) (below_drew1 hb) (by show w0.heap.size ≤ w0.heap.size + 1; omega) u) (by show w0.heap.size ≤ w0.heap.size + 1; omega) v⟩
set_option maxHeartbeats 2000000 in
set_option maxRecDepth 100000 in
theorem resolve_host (k : Nat) (b0 b1 b2 b3 b4 : ByteArray) (b5 b6 b7 b8 : Bool) (r0 r1 r2 r3 r4 : ByteArray) (r7 r8 : Bool) (d : ByteArray) (hd : locator_Dots.f k r2 = some d) (w : World) :
    Calls Tryd.prog 18 #[.agg (uriC b0 b1 b2 b3 b4 b5 b6 b7 b8), .agg (uriC r0 r1 r2 r3 r4 false true r7 r8)] w fun e w' => e = .returned (.agg (uriC b0 r1 d r3 r4 b5 true r7 r8)) ∧ Below w.heap.size w w' := by
  have hu24 := Tryd.underlying24
  obtain ⟨kb, kr, kz, hb⟩ := three_new w (.cells (uriC b0 b1 b2 b3 b4 b5 b6 b7 b8) 24) (.cells (uriC r0 r1 r2 r3 r4 false true r7 r8) 24) (.cells zeroC 24)
  have KZ := Aside0.mk kz
  have KR := Aside0.mk kr
  have KB := Aside0.mk kb
  have HB := Aside0.mk hb
  obtain ⟨⟨z0, z1, z2, z3, z4, z5, z6, z7, z8⟩, _⟩ := cells9 kr
  clear kb kr kz hb
  go_enter Tryd.func18, Tryd.ntmps18
  go_wp2_with fail
  clear z0 z1 z2 z3 z4 z5 z6 z7 z8
  refine copy2 (t1 := 12) (t2 := 13) (t3 := 14) (t4 := 15) (t5 := 16) (t6 := 17) (s := 2) (d := 3) (i := 0) (j := 5) (p := "locator.go:150") (v1 := b0) (v2 := b5) res_tab4 (fun _ _ _ _ _ h => h) (by decide) (by decide) (by decide) (by rfl) (by rfl) rfl rfl (by omega) KB.out KR.out rfl rfl rfl ?_
  obtain ⟨kb, kr, kz, hb⟩ := after_copy (i := 0) (j := 5) (u := .string b0) (v := .bool b5) KB.out KR.out KZ.out HB.out rfl
  clear KZ KR KB HB
  generalize (World.setCell (World.setCell (World.drew _) ⟨w.heap.size + 1, 0, none⟩ (.string b0)) ⟨w.heap.size + 1, 5, none⟩ (.bool b5)) = w1 at kb kr kz hb ⊢
  simp only [Act.put, List.setIfInBounds_toArray, List.set_cons_zero, List.set_cons_succ] at kr ⊢
  have KZ := Aside0.mk kz
  have KR := Aside0.mk kr
  have HB := Aside0.mk hb
  obtain ⟨⟨z0, z1, z2, z3, z4, z5, z6, z7, z8⟩, _⟩ := cells9 kr
  clear kb kr kz hb
  go_wp2_with fail
  clear z0 z1 z2 z3 z4 z5 z6 z7 z8
  refine (locator_Dots.calls k r2 d _ hd).mono ?_
  rintro x w2 ⟨rfl, h⟩
  have kz := blk_below KZ.out h
  have kr := blk_below KR.out h
  have hb := below_step HB.out h
  clear KZ KR HB h
  have KZ := Aside0.mk (blk_far kz (p := ⟨w.heap.size + 1, 2, none⟩) (by show w.heap.size + 2 ≠ w.heap.size + 1; omega) (.string d))
  have HB := Aside0.mk (Below.setCell (p := ⟨w.heap.size + 1, 2, none⟩) hb (by show w.heap.size ≤ w.heap.size + 1; omega) (.string d))
  obtain ⟨⟨z0, z1, z2, z3, z4, z5, z6, z7, z8⟩, ⟨f0, f1, f2, f3, f4, f5, f6, f7, f8⟩⟩ := cells9 kr
  obtain ⟨⟨y0, y1, y2, y3, y4, y5, y6, y7, y8⟩, ⟨g0, g1, g2, g3, g4, g5, g6, g7, g8⟩⟩ := cells9 kz
  clear kr kz hb
  go_wp2
  exact bodyPost_ret (results_cell_row rfl _ _ (w.heap.size + 2) 24 _ (0, 0) _ rfl (put9 KZ.out) Tryd.underlying24 rfl (by kernel_rfl)) rfl ⟨rfl, below9' HB.out (by omega)⟩
set_option maxHeartbeats 2000000 in
set_option maxRecDepth 100000 in
theorem resolve_path (k : Nat) (b0 b1 b2 b3 b4 : ByteArray) (b5 b6 b7 b8 : Bool) (r0 r1 r2 r3 r4 : ByteArray) (r7 r8 : Bool) (m d : ByteArray) (hne : (r2.toList == ([] : List UInt8)) = false) (hm : locator_merged.f b0 b1 b2 b3 b4 b5 b6 b7 b8 r2 = some m) (hd : locator_Dots.f k m = some d) (w : World) :
    Calls Tryd.prog 18 #[.agg (uriC b0 b1 b2 b3 b4 b5 b6 b7 b8), .agg (uriC r0 r1 r2 r3 r4 false false r7 r8)] w fun e w' => e = .returned (.agg (uriC b0 b1 d r3 r4 b5 b6 r7 r8)) ∧ Below w.heap.size w w' := by
  have hu24 := Tryd.underlying24
  have hne2 : (r2.toList != ([] : List UInt8)) = true := by unfold bne; rw [hne]; rfl
  have hne3 : r2.toList ≠ [] := by intro e; rw [e] at hne; exact absurd hne (by decide)
  obtain ⟨kb, kr, kz, hb⟩ := three_new w (.cells (uriC b0 b1 b2 b3 b4 b5 b6 b7 b8) 24) (.cells (uriC r0 r1 r2 r3 r4 false false r7 r8) 24) (.cells zeroC 24)
  have KZ := Aside0.mk kz
  have KR := Aside0.mk kr
  have KB := Aside0.mk kb
  have HB := Aside0.mk hb
  obtain ⟨⟨z0, z1, z2, z3, z4, z5, z6, z7, z8⟩, _⟩ := cells9 kr
  clear kb kr kz hb
  go_enter Tryd.func18, Tryd.ntmps18
  go_wp2_with fail
  clear z0 z1 z2 z3 z4 z5 z6 z7 z8
  refine copy2 (t1 := 12) (t2 := 13) (t3 := 14) (t4 := 15) (t5 := 16) (t6 := 17) (s := 2) (d := 3) (i := 0) (j := 5) (p := "locator.go:150") (v1 := b0) (v2 := b5) res_tab4 (fun _ _ _ _ _ h => h) (by decide) (by decide) (by decide) (by rfl) (by rfl) rfl rfl (by omega) KB.out KR.out rfl rfl rfl ?_
  obtain ⟨kb, kr, kz, hb⟩ := after_copy (i := 0) (j := 5) (u := .string b0) (v := .bool b5) KB.out KR.out KZ.out HB.out rfl
  clear KZ KR KB HB
  generalize (World.setCell (World.setCell (World.drew _) ⟨w.heap.size + 1, 0, none⟩ (.string b0)) ⟨w.heap.size + 1, 5, none⟩ (.bool b5)) = w1 at kb kr kz hb ⊢
  simp only [Act.put, List.setIfInBounds_toArray, List.set_cons_zero, List.set_cons_succ] at kr ⊢
  have KZ := Aside0.mk kz
  have KR := Aside0.mk kr
  have KB := Aside0.mk kb
  have HB := Aside0.mk hb
  obtain ⟨⟨z0, z1, z2, z3, z4, z5, z6, z7, z8⟩, ⟨f0, f1, f2, f3, f4, f5, f6, f7, f8⟩⟩ := cells9 kr
  obtain ⟨⟨x0, x1, x2, x3, x4, x5, x6, x7, x8⟩, _⟩ := cells9 kb
  clear kb kr kz hb
  go_wp2_with fail
  clear z0 z1 z2 z3 z4 z5 z6 z7 z8 f0 f1 f2 f3 f4 f5 f6 f7 f8 x0 x1 x2 x3 x4 x5 x6 x7 x8
  refine copy2 (t1 := 25) (t2 := 26) (t3 := 27) (t4 := 28) (t5 := 29) (t6 := 30) (s := 2) (d := 3) (i := 1) (j := 6) (p := "locator.go:155") (v1 := b1) (v2 := b6) res_tab8 (fun _ _ _ _ _ h => h) (by decide) (by decide) (by decide) (by rfl) (by rfl) rfl rfl (by omega) KB.out KR.out rfl rfl rfl ?_
  obtain ⟨kb, kr, kz, hb⟩ := after_copy (i := 1) (j := 6) (u := .string b1) (v := .bool b6) KB.out KR.out KZ.out HB.out rfl
  clear KZ KR KB HB
  generalize (World.setCell (World.setCell (World.drew _) ⟨w.heap.size + 1, 1, none⟩ (.string b1)) ⟨w.heap.size + 1, 6, none⟩ (.bool b6)) = w2 at kb kr kz hb ⊢
  simp only [Act.put, List.setIfInBounds_toArray, List.set_cons_zero, List.set_cons_succ] at kr ⊢
  have KZ := Aside0.mk kz
  have KR := Aside0.mk kr
  have KB := Aside0.mk kb
  have HB := Aside0.mk hb
  obtain ⟨⟨z0, z1, z2, z3, z4, z5, z6, z7, z8⟩, ⟨f0, f1, f2, f3, f4, f5, f6, f7, f8⟩⟩ := cells9 kr
  obtain ⟨⟨x0, x1, x2, x3, x4, x5, x6, x7, x8⟩, _⟩ := cells9 kb
  clear kb kr kz hb
  go_wp2_with fail
  clear z0 z1 z2 z3 z4 z5 z6 z7 z8 f0 f1 f2 f3 f4 f5 f6 f7 f8 x0 x1 x2 x3 x4 x5 x6 x7 x8
  refine (locator_merged.calls b0 b1 b2 b3 b4 b5 b6 b7 b8 r2 m _ hm).mono ?_
  rintro x w3 ⟨rfl, h⟩
  have kz := blk_below KZ.out h
  have kr := blk_below KR.out h
  have hb := below_step HB.out h
  clear KZ KR KB HB h
  have KZ := Aside0.mk kz
  have KR := Aside0.mk kr
  have HB := Aside0.mk hb
  clear kz kr hb
  go_wp2_with fail
  refine (locator_Dots.calls k m d _ hd).mono ?_
  rintro x w4 ⟨rfl, h⟩
  have kz := blk_below KZ.out h
  have kr := blk_below KR.out h
  have hb := below_step HB.out h
  clear KZ KR HB h
  have KZ := Aside0.mk (blk_far kz (p := ⟨w.heap.size + 1, 2, none⟩) (by show w.heap.size + 2 ≠ w.heap.size + 1; omega) (.string d))
  have HB := Aside0.mk (Below.setCell (p := ⟨w.heap.size + 1, 2, none⟩) hb (by show w.heap.size ≤ w.heap.size + 1; omega) (.string d))
  obtain ⟨⟨z0, z1, z2, z3, z4, z5, z6, z7, z8⟩, ⟨f0, f1, f2, f3, f4, f5, f6, f7, f8⟩⟩ := cells9 kr
  obtain ⟨⟨y0, y1, y2, y3, y4, y5, y6, y7, y8⟩, ⟨g0, g1, g2, g3, g4, g5, g6, g7, g8⟩⟩ := cells9 kz
  clear kr kz hb
  go_wp2
  exact bodyPost_ret (results_cell_row rfl _ _ (w.heap.size + 2) 24 _ (0, 0) _ rfl (put9 KZ.out) Tryd.underlying24 rfl (by kernel_rfl)) rfl ⟨rfl, below9' HB.out (by omega)⟩
set_option maxHeartbeats 2000000 in
set_option maxRecDepth 100000 in
theorem resolve_query (k : Nat) (b0 b1 b2 b3 b4 : ByteArray) (b5 b6 b7 b8 : Bool) (r0 r1 r2 r3 r4 : ByteArray) (r8 : Bool) (he : (r2.toList == ([] : List UInt8)) = true) (w : World) :
    Calls Tryd.prog 18 #[.agg (uriC b0 b1 b2 b3 b4 b5 b6 b7 b8), .agg (uriC r0 r1 r2 r3 r4 false false true r8)] w fun e w' => e = .returned (.agg (uriC b0 b1 b2 r3 r4 b5 b6 true r8)) ∧ Below w.heap.size w w' := by
  have hu24 := Tryd.underlying24
  have hne2 : (r2.toList != ([] : List UInt8)) = false := by unfold bne; rw [he]; rfl
  obtain ⟨kb, kr, kz, hb⟩ := three_new w (.cells (uriC b0 b1 b2 b3 b4 b5 b6 b7 b8) 24) (.cells (uriC r0 r1 r2 r3 r4 false false true r8) 24) (.cells zeroC 24)
  have KZ := Aside0.mk kz
  have KR := Aside0.mk kr
  have KB := Aside0.mk kb
  have HB := Aside0.mk hb
  obtain ⟨⟨z0, z1, z2, z3, z4, z5, z6, z7, z8⟩, _⟩ := cells9 kr
  clear kb kr kz hb
  go_enter Tryd.func18, Tryd.ntmps18
  go_wp2_with fail
  clear z0 z1 z2 z3 z4 z5 z6 z7 z8
  refine copy2 (t1 := 12) (t2 := 13) (t3 := 14) (t4 := 15) (t5 := 16) (t6 := 17) (s := 2) (d := 3) (i := 0) (j := 5) (p := "locator.go:150") (v1 := b0) (v2 := b5) res_tab4 (fun _ _ _ _ _ h => h) (by decide) (by decide) (by decide) (by rfl) (by rfl) rfl rfl (by omega) KB.out KR.out rfl rfl rfl ?_
  obtain ⟨kb, kr, kz, hb⟩ := after_copy (i := 0) (j := 5) (u := .string b0) (v := .bool b5) KB.out KR.out KZ.out HB.out rfl
  clear KZ KR KB HB
  generalize (World.setCell (World.setCell (World.drew _) ⟨w.heap.size + 1, 0, none⟩ (.string b0)) ⟨w.heap.size + 1, 5, none⟩ (.bool b5)) = w1 at kb kr kz hb ⊢
  simp only [Act.put, List.setIfInBounds_toArray, List.set_cons_zero, List.set_cons_succ] at kr ⊢
  have KZ := Aside0.mk kz
  have KR := Aside0.mk kr
  have KB := Aside0.mk kb
  have HB := Aside0.mk hb
  obtain ⟨⟨z0, z1, z2, z3, z4, z5, z6, z7, z8⟩, ⟨f0, f1, f2, f3, f4, f5, f6, f7, f8⟩⟩ := cells9 kr
  obtain ⟨⟨x0, x1, x2, x3, x4, x5, x6, x7, x8⟩, _⟩ := cells9 kb
  clear kb kr kz hb
  go_wp2_with fail
  clear z0 z1 z2 z3 z4 z5 z6 z7 z8 f0 f1 f2 f3 f4 f5 f6 f7 f8 x0 x1 x2 x3 x4 x5 x6 x7 x8
  refine copy2 (t1 := 25) (t2 := 26) (t3 := 27) (t4 := 28) (t5 := 29) (t6 := 30) (s := 2) (d := 3) (i := 1) (j := 6) (p := "locator.go:155") (v1 := b1) (v2 := b6) res_tab8 (fun _ _ _ _ _ h => h) (by decide) (by decide) (by decide) (by rfl) (by rfl) rfl rfl (by omega) KB.out KR.out rfl rfl rfl ?_
  obtain ⟨kb, kr, kz, hb⟩ := after_copy (i := 1) (j := 6) (u := .string b1) (v := .bool b6) KB.out KR.out KZ.out HB.out rfl
  clear KZ KR KB HB
  generalize (World.setCell (World.setCell (World.drew _) ⟨w.heap.size + 1, 1, none⟩ (.string b1)) ⟨w.heap.size + 1, 6, none⟩ (.bool b6)) = w2 at kb kr kz hb ⊢
  simp only [Act.put, List.setIfInBounds_toArray, List.set_cons_zero, List.set_cons_succ] at kr ⊢
  have KZ := Aside0.mk kz
  have KR := Aside0.mk kr
  have KB := Aside0.mk kb
  have HB := Aside0.mk hb
  have KZ2 := Aside0.mk (blk_far kz (p := ⟨w.heap.size + 1, 2, none⟩) (by show w.heap.size + 2 ≠ w.heap.size + 1; omega) (.string b2))
  have HB2 := Aside0.mk (Below.setCell (p := ⟨w.heap.size + 1, 2, none⟩) hb (by show w.heap.size ≤ w.heap.size + 1; omega) (.string b2))
  obtain ⟨⟨z0, z1, z2, z3, z4, z5, z6, z7, z8⟩, ⟨f0, f1, f2, f3, f4, f5, f6, f7, f8⟩⟩ := cells9 kr
  obtain ⟨⟨x0, x1, x2, x3, x4, x5, x6, x7, x8⟩, _⟩ := cells9 kb
  obtain ⟨⟨y0, y1, y2, y3, y4, y5, y6, y7, y8⟩, ⟨g0, g1, g2, g3, g4, g5, g6, g7, g8⟩⟩ := cells9 kz
  clear kb kr kz hb
  go_wp2
  exact bodyPost_ret (results_cell_row rfl _ _ (w.heap.size + 2) 24 _ (0, 0) _ rfl (put9 KZ2.out) Tryd.underlying24 rfl (by kernel_rfl)) rfl ⟨rfl, below9' HB2.out (by omega)⟩
set_option maxHeartbeats 2000000 in
set_option maxRecDepth 100000 in
theorem resolve_same (k : Nat) (b0 b1 b2 b3 b4 : ByteArray) (b5 b6 b7 b8 : Bool) (r0 r1 r2 r3 r4 : ByteArray) (r8 : Bool) (he : (r2.toList == ([] : List UInt8)) = true) (w : World) :
    Calls Tryd.prog 18 #[.agg (uriC b0 b1 b2 b3 b4 b5 b6 b7 b8), .agg (uriC r0 r1 r2 r3 r4 false false false r8)] w fun e w' => e = .returned (.agg (uriC b0 b1 b2 b3 r4 b5 b6 b7 r8)) ∧ Below w.heap.size w w' := by
  have hu24 := Tryd.underlying24
  have hne2 : (r2.toList != ([] : List UInt8)) = false := by unfold bne; rw [he]; rfl
  obtain ⟨kb, kr, kz, hb⟩ := three_new w (.cells (uriC b0 b1 b2 b3 b4 b5 b6 b7 b8) 24) (.cells (uriC r0 r1 r2 r3 r4 false false false r8) 24) (.cells zeroC 24)
  have KZ := Aside0.mk kz
  have KR := Aside0.mk kr
  have KB := Aside0.mk kb
  have HB := Aside0.mk hb
  obtain ⟨⟨z0, z1, z2, z3, z4, z5, z6, z7, z8⟩, _⟩ := cells9 kr
  clear kb kr kz hb
  go_enter Tryd.func18, Tryd.ntmps18
  go_wp2_with fail
  clear z0 z1 z2 z3 z4 z5 z6 z7 z8
  refine copy2 (t1 := 12) (t2 := 13) (t3 := 14) (t4 := 15) (t5 := 16) (t6 := 17) (s := 2) (d := 3) (i := 0) (j := 5) (p := "locator.go:150") (v1 := b0) (v2 := b5) res_tab4 (fun _ _ _ _ _ h => h) (by decide) (by decide) (by decide) (by rfl) (by rfl) rfl rfl (by omega) KB.out KR.out rfl rfl rfl ?_
  obtain ⟨kb, kr, kz, hb⟩ := after_copy (i := 0) (j := 5) (u := .string b0) (v := .bool b5) KB.out KR.out KZ.out HB.out rfl
  clear KZ KR KB HB
  generalize (World.setCell (World.setCell (World.drew _) ⟨w.heap.size + 1, 0, none⟩ (.string b0)) ⟨w.heap.size + 1, 5, none⟩ (.bool b5)) = w1 at kb kr kz hb ⊢
  simp only [Act.put, List.setIfInBounds_toArray, List.set_cons_zero, List.set_cons_succ] at kr ⊢
  have KZ := Aside0.mk kz
  have KR := Aside0.mk kr
  have KB := Aside0.mk kb
  have HB := Aside0.mk hb
  obtain ⟨⟨z0, z1, z2, z3, z4, z5, z6, z7, z8⟩, ⟨f0, f1, f2, f3, f4, f5, f6, f7, f8⟩⟩ := cells9 kr
  obtain ⟨⟨x0, x1, x2, x3, x4, x5, x6, x7, x8⟩, _⟩ := cells9 kb
  clear kb kr kz hb
  go_wp2_with fail
  clear z0 z1 z2 z3 z4 z5 z6 z7 z8 f0 f1 f2 f3 f4 f5 f6 f7 f8 x0 x1 x2 x3 x4 x5 x6 x7 x8
  refine copy2 (t1 := 25) (t2 := 26) (t3 := 27) (t4 := 28) (t5 := 29) (t6 := 30) (s := 2) (d := 3) (i := 1) (j := 6) (p := "locator.go:155") (v1 := b1) (v2 := b6) res_tab8 (fun _ _ _ _ _ h => h) (by decide) (by decide) (by decide) (by rfl) (by rfl) rfl rfl (by omega) KB.out KR.out rfl rfl rfl ?_
  obtain ⟨kb, kr, kz, hb⟩ := after_copy (i := 1) (j := 6) (u := .string b1) (v := .bool b6) KB.out KR.out KZ.out HB.out rfl
  clear KZ KR KB HB
  generalize (World.setCell (World.setCell (World.drew _) ⟨w.heap.size + 1, 1, none⟩ (.string b1)) ⟨w.heap.size + 1, 6, none⟩ (.bool b6)) = w2 at kb kr kz hb ⊢
  simp only [Act.put, List.setIfInBounds_toArray, List.set_cons_zero, List.set_cons_succ] at kr ⊢
  have KZ := Aside0.mk kz
  have KR := Aside0.mk kr
  have KB := Aside0.mk kb
  have HB := Aside0.mk hb
  obtain ⟨⟨z0, z1, z2, z3, z4, z5, z6, z7, z8⟩, ⟨f0, f1, f2, f3, f4, f5, f6, f7, f8⟩⟩ := cells9 kr
  obtain ⟨⟨x0, x1, x2, x3, x4, x5, x6, x7, x8⟩, _⟩ := cells9 kb
  clear KB KR KZ HB
  have KZ := Aside0.mk (blk_far kz (p := ⟨w.heap.size + 1, 2, none⟩) (by show w.heap.size + 2 ≠ w.heap.size + 1; omega) (.string b2))
  have KB := Aside0.mk (blk_far kb (p := ⟨w.heap.size + 1, 2, none⟩) (by show w.heap.size ≠ w.heap.size + 1; omega) (.string b2))
  have KR := Aside0.mk (show (w2.setCell ⟨w.heap.size + 1, 2, none⟩ (.string b2)).heap[w.heap.size + 1]? = some (.cells (uriC b0 b1 b2 r3 r4 b5 b6 false r8) 24 (0, 0)) from blk_put kr 2 _ rfl)
  have HB := Aside0.mk (Below.setCell (p := ⟨w.heap.size + 1, 2, none⟩) hb (by show w.heap.size ≤ w.heap.size + 1; omega) (.string b2))
  clear kb kr kz hb
  go_wp2_with fail
  clear z0 z1 z2 z3 z4 z5 z6 z7 z8 f0 f1 f2 f3 f4 f5 f6 f7 f8 x0 x1 x2 x3 x4 x5 x6 x7 x8
  refine copy2 (t1 := 47) (t2 := 48) (t3 := 49) (t4 := 50) (t5 := 51) (t6 := 52) (s := 2) (d := 3) (i := 3) (j := 7) (p := "locator.go:162") (v1 := b3) (v2 := b7) res_tab14 (fun _ _ _ _ _ h => h) (by decide) (by decide) (by decide) (by rfl) (by rfl) rfl rfl (by omega) KB.out KR.out rfl rfl rfl ?_
  obtain ⟨kb, kr, kz, hb⟩ := after_copy (i := 3) (j := 7) (u := .string b3) (v := .bool b7) KB.out KR.out KZ.out HB.out rfl
  clear KZ KR KB HB
  generalize (World.setCell (World.setCell (World.drew _) ⟨w.heap.size + 1, 3, none⟩ (.string b3)) ⟨w.heap.size + 1, 7, none⟩ (.bool b7)) = w3 at kb kr kz hb ⊢
  simp only [Act.put, List.setIfInBounds_toArray, List.set_cons_zero, List.set_cons_succ] at kr ⊢
  have KZ := Aside0.mk kz
  have HB := Aside0.mk hb
  obtain ⟨⟨z0, z1, z2, z3, z4, z5, z6, z7, z8⟩, ⟨f0, f1, f2, f3, f4, f5, f6, f7, f8⟩⟩ := cells9 kr
  obtain ⟨⟨y0, y1, y2, y3, y4, y5, y6, y7, y8⟩, ⟨g0, g1, g2, g3, g4, g5, g6, g7, g8⟩⟩ := cells9 kz
  clear kb kr kz hb
  go_wp2
  exact bodyPost_ret (results_cell_row rfl _ _ (w.heap.size + 2) 24 _ (0, 0) _ rfl (put9 KZ.out) Tryd.underlying24 rfl (by kernel_rfl)) rfl ⟨rfl, below9' HB.out (by omega)⟩
end Go.Proofs.YtldancekpigkaaaDoor.X
namespace Go.Proofs.YtldancekpigkaaaDoor.Pl
open Go.RowKit Go.Proofs.YtldancekpigkaaaDoorW.PrintWords Go.Proofs.YtldancekpigkaaaDoorW.PrintLast Go.Proofs.YtldancekpigkaaaDoorW.PrintMore Go.Proofs.YtldancekpigkaaaDoor.X
set_option linter.unusedVariables false
def locator_Resolve.f (k : Nat) (a0_0 : ByteArray) (a0_1 : ByteArray) (a0_2 : ByteArray) (a0_3 : ByteArray) (a0_4 : ByteArray) (a0_5 : Bool) (a0_6 : Bool) (a0_7 : Bool) (a0_8 : Bool) (a1_0 : ByteArray) (a1_1 : ByteArray) (a1_2 : ByteArray) (a1_3 : ByteArray) (a1_4 : ByteArray) (a1_5 : Bool) (a1_6 : Bool) (a1_7 : Bool) (a1_8 : Bool) : Option (ByteArray × ByteArray × ByteArray × ByteArray × ByteArray × Bool × Bool × Bool × Bool) := if a1_5 = true then ((locator_Dots.f k a1_2).bind fun t176 => (some (a1_0, a1_1, t176, a1_3, a1_4, a1_5, a1_6, a1_7, a1_8))) else (if a1_6 = true then ((locator_Dots.f k a1_2).bind fun t177 => (some (a0_0, a1_1, t177, a1_3, a1_4, a0_5, a1_6, a1_7, a1_8))) else (if a1_2.toList = ([] : List UInt8) then (if a1_7 = true then (some (a0_0, a0_1, a0_2, a1_3, a1_4, a0_5, a0_6, a1_7, a1_8)) else (some (a0_0, a0_1, a0_2, a0_3, a1_4, a0_5, a0_6, a0_7, a1_8))) else ((locator_merged.f a0_0 a0_1 a0_2 a0_3 a0_4 a0_5 a0_6 a0_7 a0_8 a1_2).bind fun t178 => ((locator_Dots.f k t178).bind fun t179 => (some (a0_0, a0_1, t179, a1_3, a1_4, a0_5, a0_6, a1_7, a1_8))))))
theorem locator_Resolve.mono : ∀ a0 a1 a2 a3 a4 a5 a6 a7 a8 a9 a10 a11 a12 a13 a14 a15 a16 a17 k, LeO (locator_Resolve.f k a0 a1 a2 a3 a4 a5 a6 a7 a8 a9 a10 a11 a12 a13 a14 a15 a16 a17) (locator_Resolve.f (k + 1) a0 a1 a2 a3 a4 a5 a6 a7 a8 a9 a10 a11 a12 a13 a14 a15 a16 a17) := by
  intro a0 a1 a2 a3 a4 a5 a6 a7 a8 a9 a10 a11 a12 a13 a14 a15 a16 a17 k
  unfold locator_Resolve.f
  repeat' first
      | (with_reducible exact locator_Dots.mono _ _)
      | (with_reducible exact LeO.refl _)
      | (with_reducible exact LeO.none _)
      | (with_reducible refine LeO.ite ?_ ?_)
      | (with_reducible refine LeO.bind ?_ (fun _ => ?_))
      | exact locator_Dots.mono _ _
      | exact LeO.none _
      | refine LeO.ite ?_ ?_
      | refine LeO.bind ?_ (fun _ => ?_)
theorem locator_Resolve.calls (k : Nat) (a0_0 : ByteArray) (a0_1 : ByteArray) (a0_2 : ByteArray) (a0_3 : ByteArray) (a0_4 : ByteArray) (a0_5 : Bool) (a0_6 : Bool) (a0_7 : Bool) (a0_8 : Bool) (a1_0 : ByteArray) (a1_1 : ByteArray) (a1_2 : ByteArray) (a1_3 : ByteArray) (a1_4 : ByteArray) (a1_5 : Bool) (a1_6 : Bool) (a1_7 : Bool) (a1_8 : Bool) (r1 : ByteArray) (r2 : ByteArray) (r3 : ByteArray) (r4 : ByteArray) (r5 : ByteArray) (r6 : Bool) (r7 : Bool) (r8 : Bool) (r9 : Bool) (w : World) (h : locator_Resolve.f k a0_0 a0_1 a0_2 a0_3 a0_4 a0_5 a0_6 a0_7 a0_8 a1_0 a1_1 a1_2 a1_3 a1_4 a1_5 a1_6 a1_7 a1_8 = some (r1, r2, r3, r4, r5, r6, r7, r8, r9)) :
    Calls Tryd.prog 18 #[.agg #[.string a0_0, .string a0_1, .string a0_2, .string a0_3, .string a0_4, .bool a0_5, .bool a0_6, .bool a0_7, .bool a0_8], .agg #[.string a1_0, .string a1_1, .string a1_2, .string a1_3, .string a1_4, .bool a1_5, .bool a1_6, .bool a1_7, .bool a1_8]] w fun e w' => e = .returned (.agg #[.string r1, .string r2, .string r3, .string r4, .string r5, .bool r6, .bool r7, .bool r8, .bool r9]) ∧ Below w.heap.size w w' := by
  unfold locator_Resolve.f at h
  by_cases c5 : a1_5 = true
  · rw [if_pos c5] at h
    obtain ⟨t, ht, h⟩ := Option.bind_eq_some_iff.mp h
    subst c5
    obtain ⟨rfl, rfl, rfl, rfl, rfl, rfl, rfl, rfl, rfl⟩ := by simpa only [Option.some.injEq, Prod.mk.injEq] using h
    exact resolve_scheme k _ _ _ _ _ _ _ _ _ _ _ _ _ _ _ _ _ _ ht w
  · rw [if_neg c5] at h
    replace c5 := Bool.eq_false_iff.mpr c5
    subst c5
    by_cases c6 : a1_6 = true
    · rw [if_pos c6] at h
      obtain ⟨t, ht, h⟩ := Option.bind_eq_some_iff.mp h
      subst c6
      obtain ⟨rfl, rfl, rfl, rfl, rfl, rfl, rfl, rfl, rfl⟩ := by simpa only [Option.some.injEq, Prod.mk.injEq] using h
      exact resolve_host k _ _ _ _ _ _ _ _ _ _ _ _ _ _ _ _ _ ht w
    · rw [if_neg c6] at h
      replace c6 := Bool.eq_false_iff.mpr c6
      subst c6
      by_cases c2 : a1_2.toList = ([] : List UInt8)
      · rw [if_pos c2] at h
        by_cases c7 : a1_7 = true
        · rw [if_pos c7] at h
          subst c7
          obtain ⟨rfl, rfl, rfl, rfl, rfl, rfl, rfl, rfl, rfl⟩ := by simpa only [Option.some.injEq, Prod.mk.injEq] using h
          exact resolve_query k _ _ _ _ _ _ _ _ _ _ _ _ _ _ _ (beq_iff_eq.mpr c2) w
        · rw [if_neg c7] at h
          replace c7 := Bool.eq_false_iff.mpr c7
          subst c7
          obtain ⟨rfl, rfl, rfl, rfl, rfl, rfl, rfl, rfl, rfl⟩ := by simpa only [Option.some.injEq, Prod.mk.injEq] using h
          exact resolve_same k _ _ _ _ _ _ _ _ _ _ _ _ _ _ _ (beq_iff_eq.mpr c2) w
      · rw [if_neg c2] at h
        obtain ⟨m, hm, h⟩ := Option.bind_eq_some_iff.mp h
        obtain ⟨t, ht, h⟩ := Option.bind_eq_some_iff.mp h
        obtain ⟨rfl, rfl, rfl, rfl, rfl, rfl, rfl, rfl, rfl⟩ := by simpa only [Option.some.injEq, Prod.mk.injEq] using h
        exact resolve_path k _ _ _ _ _ _ _ _ _ _ _ _ _ _ _ _ m _ (beq_eq_false_iff_ne.mpr c2) hm ht w
end Go.Proofs.YtldancekpigkaaaDoor.Pl
