/- The reference's Resolve, walked by hand. The reference's Resolve, walked by hand: a reference with a host; a path that is laid behind the base's. The reference's Resolve, walked by hand: a path that begins with a slash, or that is laid behind the base's. The reference's Resolve, walked by hand: a path that is laid behind the base's last slash; all paths. The reference's Resolve in the printer's shape, out of the roads that XRef walks. -/
import Derived.Test.YtldancekpigkaaaDoorXResF
import Derived.Test.YtldancekpigkaaaDoorPl8
import Derived.Test.YtldancekpigkaaaDoorPl9
import Derived.Test.YtldancekpigkaaaDoorU0
namespace Go.Proofs.YtldancekpigkaaaDoor.X
open Go.RowKit Go.Shelf Go.Proofs.YtldancekpigkaaaDoorW.PrintWords Go.Proofs.YtldancekpigkaaaDoorW.PrintLast Go.Proofs.YtldancekpigkaaaDoorW.PrintMore Go.Proofs.YtldancekpigkaaaDoor.Pl
set_option linter.unusedVariables false
/-- Four blocks that are made one behind the other. -/
theorem four_new (w : World) (o1 o2 o3 o4 : Obj) : ((((w.alloc o1).alloc o2).alloc o3).alloc o4).heap[w.heap.size]? = some o1 ∧ ((((w.alloc o1).alloc o2).alloc o3).alloc o4).heap[w.heap.size + 1]? = some o2 ∧ ((((w.alloc o1).alloc o2).alloc o3).alloc o4).heap[w.heap.size + 2]? = some o3 ∧ ((((w.alloc o1).alloc o2).alloc o3).alloc o4).heap[w.heap.size + 3]? = some o4 ∧ Below w.heap.size w ((((w.alloc o1).alloc o2).alloc o3).alloc o4) := by
  obtain ⟨h1, h2, h3, hb⟩ := three_new w o1 o2 o3
  have h4 := blk_new (((w.alloc o1).alloc o2).alloc o3) o4
  rw [World.size_alloc, World.size_alloc, World.size_alloc] at h4
  exact ⟨blk_alloc h1 _, blk_alloc h2 _, blk_alloc h3 _, h4, hb.alloc (by rw [World.size_alloc, World.size_alloc, World.size_alloc]; omega) _⟩
set_option maxHeartbeats 2000000 in
set_option maxRecDepth 100000 in
theorem ref_scheme (k : Nat) (b0 b1 b2 b3 b4 : ByteArray) (b5 b6 b7 b8 : Bool) (r0 r1 r2 r3 r4 : ByteArray) (r6 r7 r8 : Bool) (d : ByteArray) (hd : broadsheetref12_Dots.f k r2 = some d) (w : World) :
    Calls Tryd.prog 19 #[.agg (uriC b0 b1 b2 b3 b4 b5 b6 b7 b8), .agg (uriC r0 r1 r2 r3 r4 true r6 r7 r8)] w fun e w' => e = .returned (.agg (uriC r0 r1 d r3 r4 true r6 r7 r8)) ∧ Below w.heap.size w w' := by
  have hu24 := Tryd.underlying24
  obtain ⟨kb, kr, kz, hb⟩ := three_new w (.cells (uriC b0 b1 b2 b3 b4 b5 b6 b7 b8) 24) (.cells (uriC r0 r1 r2 r3 r4 true r6 r7 r8) 24) (.cells zeroC 24)
  have KZ := Aside0.mk kz
  have KR := Aside0.mk kr
  have KB := Aside0.mk kb
  have HB := Aside0.mk hb
  obtain ⟨⟨z0, z1, z2, z3, z4, z5, z6, z7, z8⟩, _⟩ := cells9 kr
  obtain ⟨⟨x0, x1, x2, x3, x4, x5, x6, x7, x8⟩, _⟩ := cells9 kb
  clear kb kr kz hb
  go_enter Tryd.func19, Tryd.ntmps19
  go_wp2_with fail
  clear z0 z1 z2 z3 z4 z5 z6 z7 z8 x0 x1 x2 x3 x4 x5 x6 x7 x8 KZ KR KB HB
  obtain ⟨kb, kr, kz, kt, hb⟩ := four_new w (.cells (uriC b0 b1 b2 b3 b4 b5 b6 b7 b8) 24) (.cells (uriC r0 r1 r2 r3 r4 true r6 r7 r8) 24) (.cells zeroC 24) (.cells (uriC r0 r1 r2 r3 r4 true r6 r7 r8) 24)
  refine (broadsheetref12_Dots.calls k r2 d _ hd).mono ?_
  rintro x w1 ⟨rfl, h⟩
  replace h := Drawn0.below h
  have kz := blk_below kz h
  have kt := blk_below kt h
  have hb := below_step hb h
  clear h kb kr
  have KZ := Aside0.mk (blk_far kz (p := ⟨w.heap.size + 3, 2, none⟩) (by show w.heap.size + 2 ≠ w.heap.size + 3; omega) (.string d))
  have HB := Aside0.mk (Below.setCell (p := ⟨w.heap.size + 3, 2, none⟩) hb (by show w.heap.size ≤ w.heap.size + 3; omega) (.string d))
  obtain ⟨⟨z0, z1, z2, z3, z4, z5, z6, z7, z8⟩, ⟨f0, f1, f2, f3, f4, f5, f6, f7, f8⟩⟩ := cells9 kt
  obtain ⟨⟨y0, y1, y2, y3, y4, y5, y6, y7, y8⟩, ⟨g0, g1, g2, g3, g4, g5, g6, g7, g8⟩⟩ := cells9 kz
  clear kt kz hb
  go_wp2
  exact bodyPost_ret (results_cell_row rfl _ _ (w.heap.size + 2) 24 _ (0, 0) _ rfl (put9 KZ.out) Tryd.underlying24 rfl (by kernel_rfl)) rfl ⟨rfl, below9' HB.out (by omega)⟩
/-- What lies in memory behind a copy of two fields to the answer's parts. -/
theorem after_copyT {w0 w : World} {cb cr cz ct ct' : Array Value} {i j : Nat} {u v : Value} (kb : w.heap[w0.heap.size]? = some (.cells cb 24 (0, 0))) (kr : w.heap[w0.heap.size + 1]? = some (.cells cr 24 (0, 0))) (kz : w.heap[w0.heap.size + 2]? = some (.cells cz 24 (0, 0))) (kt : w.heap[w0.heap.size + 3]? = some (.cells ct 24 (0, 0))) (hb : Below w0.heap.size w0 w) (e : (ct.setIfInBounds i u).setIfInBounds j v = ct') :
    ((w.drew.setCell ⟨w0.heap.size + 3, i, none⟩ u).setCell ⟨w0.heap.size + 3, j, none⟩ v).heap[w0.heap.size]? = some (.cells cb 24 (0, 0)) ∧ ((w.drew.setCell ⟨w0.heap.size + 3, i, none⟩ u).setCell ⟨w0.heap.size + 3, j, none⟩ v).heap[w0.heap.size + 1]? = some (.cells cr 24 (0, 0)) ∧ ((w.drew.setCell ⟨w0.heap.size + 3, i, none⟩ u).setCell ⟨w0.heap.size + 3, j, none⟩ v).heap[w0.heap.size + 2]? = some (.cells cz 24 (0, 0)) ∧ ((w.drew.setCell ⟨w0.heap.size + 3, i, none⟩ u).setCell ⟨w0.heap.size + 3, j, none⟩ v).heap[w0.heap.size + 3]? = some (.cells ct' 24 (0, 0)) ∧ Below w0.heap.size w0 ((w.drew.setCell ⟨w0.heap.size + 3, i, none⟩ u).setCell ⟨w0.heap.size + 3, j, none⟩ v) :=
  ⟨blk_far (blk_far (blk_drew kb) (p := ⟨w0.heap.size + 3, i, none⟩) (by show w0.heap.size ≠ w0.heap.size + 3; omega) u) (p := ⟨w0.heap.size + 3, j, none⟩) (by show w0.heap.size ≠ w0.heap.size + 3; omega) v,
    blk_far (blk_far (blk_drew kr) (p := ⟨w0.heap.size + 3, i, none⟩) (by show w0.heap.size + 1 ≠ w0.heap.size + 3; omega) u) (p := ⟨w0.heap.size + 3, j, none⟩) (by show w0.heap.size + 1 ≠ w0.heap.size + 3; omega) v,
    blk_far (blk_far (blk_drew kz) (p := ⟨w0.heap.size + 3, i, none⟩) (by show w0.heap.size + 2 ≠ w0.heap.size + 3; omega) u) (p := ⟨w0.heap.size + 3, j, none⟩) (by show w0.heap.size + 2 ≠ w0.heap.size + 3; omega) v,
    blk_put (blk_set (blk_drew kt) i u) j v e,
    Below.setCell (p := ⟨w0.heap.size + 3, j, none⟩) (Below.setCell (p := ⟨w0.heap.size + 3, i, none⟩) (below_drew1 hb) (by show w0.heap.size ≤ w0.heap.size + 3; omega) u) (by show w0.heap.size ≤ w0.heap.size + 3; omega) v⟩
theorem ref_tab9 : rtab .any (cpOps 43 44 45 46 47 48 2 5 1 6 "ref.go:174") = cpT := by kernel_rfl
theorem ref_tab16 : rtab .any (cpOps 80 81 82 83 84 85 2 5 3 7 "ref.go:178") = cpT := by kernel_rfl
theorem ref_tab24 : rtab .any (cpOps 114 115 116 117 118 119 3 5 3 7 "ref.go:194") = cpT := by kernel_rfl
set_option maxHeartbeats 2000000 in
set_option maxRecDepth 100000 in
theorem ref_query (k : Nat) (b0 b1 b2 b3 b4 : ByteArray) (b5 b6 b7 b8 : Bool) (r0 r1 r2 r3 r4 : ByteArray) (r8 : Bool) (he : (r2.toList == ([] : List UInt8)) = true) (w : World) :
    Calls Tryd.prog 19 #[.agg (uriC b0 b1 b2 b3 b4 b5 b6 b7 b8), .agg (uriC r0 r1 r2 r3 r4 false false true r8)] w fun e w' => e = .returned (.agg (uriC b0 b1 b2 r3 r4 b5 b6 true r8)) ∧ Below w.heap.size w w' := by
  have hu24 := Tryd.underlying24
  obtain ⟨kb, kr, kz, hb⟩ := three_new w (.cells (uriC b0 b1 b2 b3 b4 b5 b6 b7 b8) 24) (.cells (uriC r0 r1 r2 r3 r4 false false true r8) 24) (.cells zeroC 24)
  obtain ⟨⟨z0, z1, z2, z3, z4, z5, z6, z7, z8⟩, _⟩ := cells9 kr
  obtain ⟨⟨x0, x1, x2, x3, x4, x5, x6, x7, x8⟩, _⟩ := cells9 kb
  clear kb kr kz hb
  go_enter Tryd.func19, Tryd.ntmps19
  go_wp2_with fail
  clear z0 z1 z2 z3 z4 z5 z6 z7 z8 x0 x1 x2 x3 x4 x5 x6 x7 x8
  obtain ⟨kb, kr, kz, kt, hb⟩ := four_new w (.cells (uriC b0 b1 b2 b3 b4 b5 b6 b7 b8) 24) (.cells (uriC r0 r1 r2 r3 r4 false false true r8) 24) (.cells zeroC 24) (.cells (uriC b0 ⟨#[]⟩ ⟨#[]⟩ ⟨#[]⟩ r4 b5 false false r8) 24)
  refine copy2 (t1 := 43) (t2 := 44) (t3 := 45) (t4 := 46) (t5 := 47) (t6 := 48) (s := 2) (d := 5) (i := 1) (j := 6) (p := "ref.go:174") (v1 := b1) (v2 := b6) ref_tab9 (fun _ _ _ _ _ h => h) (by decide) (by decide) (by decide) (by rfl) (by rfl) rfl rfl (by omega) kb kt rfl rfl rfl ?_
  replace kt := after_copyT (i := 1) (j := 6) (u := .string b1) (v := .bool b6) kb kr kz kt hb rfl
  clear kb kr kz hb
  obtain ⟨kb, kr, kz, kt, hb⟩ := kt
  generalize (World.setCell (World.setCell (World.drew _) ⟨w.heap.size + 3, 1, none⟩ (.string b1)) ⟨w.heap.size + 3, 6, none⟩ (.bool b6)) = w1 at kb kr kz kt hb ⊢
  simp only [Act.put, List.setIfInBounds_toArray, List.set_cons_zero, List.set_cons_succ] at kt ⊢
  have hs2 : (w1.setCell ⟨w.heap.size + 3, 2, none⟩ (.string b2)).heap[w.heap.size + 3]? = some (.cells (uriC b0 b1 b2 ⟨#[]⟩ r4 b5 b6 false r8) 24 (0, 0)) := blk_put kt 2 _ rfl
  obtain ⟨⟨z0, z1, z2, z3, z4, z5, z6, z7, z8⟩, _⟩ := cells9 kr
  obtain ⟨⟨x0, x1, x2, x3, x4, x5, x6, x7, x8⟩, _⟩ := cells9 kb
  obtain ⟨⟨y0, y1, y2, y3, y4, y5, y6, y7, y8⟩, ⟨g0, g1, g2, g3, g4, g5, g6, g7, g8⟩⟩ := cells9 kt
  have KB := Aside0.mk (blk_far kb (p := ⟨w.heap.size + 3, 2, none⟩) (by show w.heap.size ≠ w.heap.size + 3; omega) (.string b2))
  have KR := Aside0.mk (blk_far kr (p := ⟨w.heap.size + 3, 2, none⟩) (by show w.heap.size + 1 ≠ w.heap.size + 3; omega) (.string b2))
  have KZ := Aside0.mk (blk_far kz (p := ⟨w.heap.size + 3, 2, none⟩) (by show w.heap.size + 2 ≠ w.heap.size + 3; omega) (.string b2))
  have KT := Aside0.mk hs2
  have HB := Aside0.mk (Below.setCell (p := ⟨w.heap.size + 3, 2, none⟩) hb (by show w.heap.size ≤ w.heap.size + 3; omega) (.string b2))
  clear kb kr kz kt hb hs2
  go_wp2_with fail
  clear z0 z1 z2 z3 z4 z5 z6 z7 z8 x0 x1 x2 x3 x4 x5 x6 x7 x8 y0 y1 y2 y3 y4 y5 y6 y7 y8 g0 g1 g2 g3 g4 g5 g6 g7 g8
  have kb := KB.out
  have kr := KR.out
  have kz := KZ.out
  have kt := KT.out
  have hb := HB.out
  clear KB KR KZ KT HB
  refine copy2 (t1 := 80) (t2 := 81) (t3 := 82) (t4 := 83) (t5 := 84) (t6 := 85) (s := 2) (d := 5) (i := 3) (j := 7) (p := "ref.go:178") (v1 := b3) (v2 := b7) ref_tab16 (fun _ _ _ _ _ h => h) (by decide) (by decide) (by decide) (by rfl) (by rfl) rfl rfl (by omega) kb kt rfl rfl rfl ?_
  replace kt := after_copyT (i := 3) (j := 7) (u := .string b3) (v := .bool b7) kb kr kz kt hb rfl
  clear kb kr kz hb
  obtain ⟨kb, kr, kz, kt, hb⟩ := kt
  generalize (World.setCell (World.setCell (World.drew _) ⟨w.heap.size + 3, 3, none⟩ (.string b3)) ⟨w.heap.size + 3, 7, none⟩ (.bool b7)) = w2 at kb kr kz kt hb ⊢
  simp only [Act.put, List.setIfInBounds_toArray, List.set_cons_zero, List.set_cons_succ] at kt ⊢
  have KZ := Aside0.mk (blk_far (blk_far kz (p := ⟨w.heap.size + 3, 3, none⟩) (by show w.heap.size + 2 ≠ w.heap.size + 3; omega) (.string r3)) (p := ⟨w.heap.size + 3, 7, none⟩) (by show w.heap.size + 2 ≠ w.heap.size + 3; omega) (.bool true))
  have HB := Aside0.mk (Below.setCell (p := ⟨w.heap.size + 3, 7, none⟩) (Below.setCell (p := ⟨w.heap.size + 3, 3, none⟩) hb (by show w.heap.size ≤ w.heap.size + 3; omega) (.string r3)) (by show w.heap.size ≤ w.heap.size + 3; omega) (.bool true))
  obtain ⟨⟨z0, z1, z2, z3, z4, z5, z6, z7, z8⟩, _⟩ := cells9 kr
  obtain ⟨⟨x0, x1, x2, x3, x4, x5, x6, x7, x8⟩, ⟨f0, f1, f2, f3, f4, f5, f6, f7, f8⟩⟩ := cells9 kt
  obtain ⟨⟨y0, y1, y2, y3, y4, y5, y6, y7, y8⟩, ⟨g0, g1, g2, g3, g4, g5, g6, g7, g8⟩⟩ := cells9 kz
  clear kb kr kz kt hb
  go_wp2
  exact bodyPost_ret (results_cell_row rfl _ _ (w.heap.size + 2) 24 _ (0, 0) _ rfl (put9 KZ.out) Tryd.underlying24 rfl (by kernel_rfl)) rfl ⟨rfl, below9' HB.out (by omega)⟩
set_option maxHeartbeats 2000000 in
set_option maxRecDepth 100000 in
theorem ref_same (k : Nat) (b0 b1 b2 b3 b4 : ByteArray) (b5 b6 b7 b8 : Bool) (r0 r1 r2 r3 r4 : ByteArray) (r8 : Bool) (he : (r2.toList == ([] : List UInt8)) = true) (w : World) :
    Calls Tryd.prog 19 #[.agg (uriC b0 b1 b2 b3 b4 b5 b6 b7 b8), .agg (uriC r0 r1 r2 r3 r4 false false false r8)] w fun e w' => e = .returned (.agg (uriC b0 b1 b2 b3 r4 b5 b6 b7 r8)) ∧ Below w.heap.size w w' := by
  have hu24 := Tryd.underlying24
  obtain ⟨kb, kr, kz, hb⟩ := three_new w (.cells (uriC b0 b1 b2 b3 b4 b5 b6 b7 b8) 24) (.cells (uriC r0 r1 r2 r3 r4 false false false r8) 24) (.cells zeroC 24)
  obtain ⟨⟨z0, z1, z2, z3, z4, z5, z6, z7, z8⟩, _⟩ := cells9 kr
  obtain ⟨⟨x0, x1, x2, x3, x4, x5, x6, x7, x8⟩, _⟩ := cells9 kb
  clear kb kr kz hb
  go_enter Tryd.func19, Tryd.ntmps19
  go_wp2_with fail
  clear z0 z1 z2 z3 z4 z5 z6 z7 z8 x0 x1 x2 x3 x4 x5 x6 x7 x8
  obtain ⟨kb, kr, kz, kt, hb⟩ := four_new w (.cells (uriC b0 b1 b2 b3 b4 b5 b6 b7 b8) 24) (.cells (uriC r0 r1 r2 r3 r4 false false false r8) 24) (.cells zeroC 24) (.cells (uriC b0 ⟨#[]⟩ ⟨#[]⟩ ⟨#[]⟩ r4 b5 false false r8) 24)
  refine copy2 (t1 := 43) (t2 := 44) (t3 := 45) (t4 := 46) (t5 := 47) (t6 := 48) (s := 2) (d := 5) (i := 1) (j := 6) (p := "ref.go:174") (v1 := b1) (v2 := b6) ref_tab9 (fun _ _ _ _ _ h => h) (by decide) (by decide) (by decide) (by rfl) (by rfl) rfl rfl (by omega) kb kt rfl rfl rfl ?_
  replace kt := after_copyT (i := 1) (j := 6) (u := .string b1) (v := .bool b6) kb kr kz kt hb rfl
  clear kb kr kz hb
  obtain ⟨kb, kr, kz, kt, hb⟩ := kt
  generalize (World.setCell (World.setCell (World.drew _) ⟨w.heap.size + 3, 1, none⟩ (.string b1)) ⟨w.heap.size + 3, 6, none⟩ (.bool b6)) = w1 at kb kr kz kt hb ⊢
  simp only [Act.put, List.setIfInBounds_toArray, List.set_cons_zero, List.set_cons_succ] at kt ⊢
  have hs2 : (w1.setCell ⟨w.heap.size + 3, 2, none⟩ (.string b2)).heap[w.heap.size + 3]? = some (.cells (uriC b0 b1 b2 ⟨#[]⟩ r4 b5 b6 false r8) 24 (0, 0)) := blk_put kt 2 _ rfl
  obtain ⟨⟨z0, z1, z2, z3, z4, z5, z6, z7, z8⟩, _⟩ := cells9 kr
  obtain ⟨⟨x0, x1, x2, x3, x4, x5, x6, x7, x8⟩, _⟩ := cells9 kb
  obtain ⟨⟨y0, y1, y2, y3, y4, y5, y6, y7, y8⟩, ⟨g0, g1, g2, g3, g4, g5, g6, g7, g8⟩⟩ := cells9 kt
  have KB := Aside0.mk (blk_far kb (p := ⟨w.heap.size + 3, 2, none⟩) (by show w.heap.size ≠ w.heap.size + 3; omega) (.string b2))
  have KR := Aside0.mk (blk_far kr (p := ⟨w.heap.size + 3, 2, none⟩) (by show w.heap.size + 1 ≠ w.heap.size + 3; omega) (.string b2))
  have KZ := Aside0.mk (blk_far kz (p := ⟨w.heap.size + 3, 2, none⟩) (by show w.heap.size + 2 ≠ w.heap.size + 3; omega) (.string b2))
  have KT := Aside0.mk hs2
  have HB := Aside0.mk (Below.setCell (p := ⟨w.heap.size + 3, 2, none⟩) hb (by show w.heap.size ≤ w.heap.size + 3; omega) (.string b2))
  clear kb kr kz kt hb hs2
  go_wp2_with fail
  clear z0 z1 z2 z3 z4 z5 z6 z7 z8 x0 x1 x2 x3 x4 x5 x6 x7 x8 y0 y1 y2 y3 y4 y5 y6 y7 y8 g0 g1 g2 g3 g4 g5 g6 g7 g8
  have kb := KB.out
  have kr := KR.out
  have kz := KZ.out
  have kt := KT.out
  have hb := HB.out
  clear KB KR KZ KT HB
  refine copy2 (t1 := 80) (t2 := 81) (t3 := 82) (t4 := 83) (t5 := 84) (t6 := 85) (s := 2) (d := 5) (i := 3) (j := 7) (p := "ref.go:178") (v1 := b3) (v2 := b7) ref_tab16 (fun _ _ _ _ _ h => h) (by decide) (by decide) (by decide) (by rfl) (by rfl) rfl rfl (by omega) kb kt rfl rfl rfl ?_
  replace kt := after_copyT (i := 3) (j := 7) (u := .string b3) (v := .bool b7) kb kr kz kt hb rfl
  clear kb kr kz hb
  obtain ⟨kb, kr, kz, kt, hb⟩ := kt
  generalize (World.setCell (World.setCell (World.drew _) ⟨w.heap.size + 3, 3, none⟩ (.string b3)) ⟨w.heap.size + 3, 7, none⟩ (.bool b7)) = w2 at kb kr kz kt hb ⊢
  simp only [Act.put, List.setIfInBounds_toArray, List.set_cons_zero, List.set_cons_succ] at kt ⊢
  have KZ := Aside0.mk kz
  have HB := Aside0.mk hb
  obtain ⟨⟨z0, z1, z2, z3, z4, z5, z6, z7, z8⟩, _⟩ := cells9 kr
  obtain ⟨⟨x0, x1, x2, x3, x4, x5, x6, x7, x8⟩, ⟨f0, f1, f2, f3, f4, f5, f6, f7, f8⟩⟩ := cells9 kt
  obtain ⟨⟨y0, y1, y2, y3, y4, y5, y6, y7, y8⟩, ⟨g0, g1, g2, g3, g4, g5, g6, g7, g8⟩⟩ := cells9 kz
  clear kb kr kz kt hb
  go_wp2
  exact bodyPost_ret (results_cell_row rfl _ _ (w.heap.size + 2) 24 _ (0, 0) _ rfl (put9 KZ.out) Tryd.underlying24 rfl (by kernel_rfl)) rfl ⟨rfl, below9' HB.out (by omega)⟩
end Go.Proofs.YtldancekpigkaaaDoor.X
namespace Go.Proofs.YtldancekpigkaaaDoor.X
open Go.RowKit Go.Shelf Go.Proofs.YtldancekpigkaaaDoorW.PrintWords Go.Proofs.YtldancekpigkaaaDoorW.PrintLast Go.Proofs.YtldancekpigkaaaDoorW.PrintMore Go.Proofs.YtldancekpigkaaaDoor.Pl
set_option linter.unusedVariables false
def refT7 : Bool × List (List Nat × List Nat) := (true, [([], []), ([0], [0]), ([], []), ([2], [2]), ([3], [3]), ([], []), ([5], [5]), ([], []), ([7], [7]), ([0, 1], []), ([9, 1, 4, 0, 1], [1, 9]), ([0, 1, 9, 10], []), ([11, 10, 0, 1, 9, 10], [11]), ([0, 1, 2, 3, 4, 9, 10, 11, 12], []), ([13, 4, 12, 0, 1, 2, 3, 4, 9, 10, 11, 12], [4, 13]), ([0, 1, 2, 3, 4, 5, 6, 9, 10, 11, 12, 13, 14], []), ([15, 6, 14, 0, 1, 2, 3, 4, 5, 6, 9, 10, 11, 12, 13, 14], [6, 15]), ([0, 1, 2, 3, 4, 5, 6, 7, 8, 9, 10, 11, 12, 13, 14, 15, 16], []), ([17, 8, 16, 0, 1, 2, 3, 4, 5, 6, 7, 8, 9, 10, 11, 12, 13, 14, 15, 16], [8, 17])])
def refB7 : List Nat := [0, 1, 0, 4, 12, 0, 32, 0, 128, 3, 543, 1567, 3615, 7711, 15903, 32383, 65151, 131071, 262143]
theorem ref_tab7 : rtab .any (opsOf Tryd.f19 7) = refT7 := by kernel_rfl
theorem ref_bits7 : waitsOk refT7.2 refB7 = true := by kernel_rfl
set_option maxHeartbeats 4000000 in
set_option maxRecDepth 100000 in
theorem ref_host (k : Nat) (b0 b1 b2 b3 b4 : ByteArray) (b5 b6 b7 b8 : Bool) (r0 r1 r2 r3 r4 : ByteArray) (r7 r8 : Bool) (d : ByteArray) (hd : broadsheetref12_Dots.f k r2 = some d) (w : World) :
    Calls Tryd.prog 19 #[.agg (uriC b0 b1 b2 b3 b4 b5 b6 b7 b8), .agg (uriC r0 r1 r2 r3 r4 false true r7 r8)] w fun e w' => e = .returned (.agg (uriC b0 r1 d r3 r4 b5 true r7 r8)) ∧ Below w.heap.size w w' := by
  have hu24 := Tryd.underlying24
  obtain ⟨kb, kr, kz, hb⟩ := three_new w (.cells (uriC b0 b1 b2 b3 b4 b5 b6 b7 b8) 24) (.cells (uriC r0 r1 r2 r3 r4 false true r7 r8) 24) (.cells zeroC 24)
  obtain ⟨⟨z0, z1, z2, z3, z4, z5, z6, z7, z8⟩, _⟩ := cells9 kr
  obtain ⟨⟨x0, x1, x2, x3, x4, x5, x6, x7, x8⟩, _⟩ := cells9 kb
  clear kb kr kz hb
  go_enter Tryd.func19, Tryd.ntmps19
  go_wp2_with fail
  clear z0 z1 z2 z3 z4 z5 z6 z7 z8 x0 x1 x2 x3 x4 x5 x6 x7 x8
  obtain ⟨kb, kr, kz, kt, hb⟩ := four_new w (.cells (uriC b0 b1 b2 b3 b4 b5 b6 b7 b8) 24) (.cells (uriC r0 r1 r2 r3 r4 false true r7 r8) 24) (.cells zeroC 24) (.cells (uriC b0 ⟨#[]⟩ ⟨#[]⟩ ⟨#[]⟩ r4 b5 false false r8) 24)
  refine start_ (n := 19) (S := fun w' => w'.cell? ⟨w.heap.size + 1, 1, none⟩ = some (.string r1) ∧ w'.cell? ⟨w.heap.size + 1, 2, none⟩ = some (.string r2) ∧ w'.cell? ⟨w.heap.size + 1, 3, none⟩ = some (.string r3) ∧ w'.cell? ⟨w.heap.size + 1, 7, none⟩ = some (.bool r7)) (ds := []) #[false, false, false, false, false, false, false, false, false, false, false, false, false, false, false, false, false, false, false] (by kernel_rfl) rfl rfl ⟨(blk_cell kr 1).trans rfl, (blk_cell kr 2).trans rfl, (blk_cell kr 3).trans rfl, (blk_cell kr 7).trans rfl⟩ (fun hHeld => ?_)
  refine with_tabW ref_tab7 ref_bits7 (fun HT_ HW_ => ?_)
  replace kr := blk_drew kr
  replace kz := blk_drew kz
  replace kt := blk_drew kt
  replace hb := below_drew1 hb
  clear kb
  generalize World.drew _ = w1 at kr kz kt hb hHeld ⊢
  refine pure_ (i := 0) (N := some 28) (v := .pointer (some ⟨w.heap.size + 1, 1, none⟩)) #[true, false, false, false, false, false, false, false, false, false, false, false, false, false, false, false, false, false, false] rfl rfl (any_of HT_.out (by kernel_rfl)) (fun _ _ _ h => h) (Or.inl ⟨by rfl, fun w' => by go_simp⟩) rfl ?_
  refine pure_ (i := 2) (N := some 30) (v := .pointer (some ⟨w.heap.size + 1, 2, none⟩)) #[true, false, true, false, false, false, false, false, false, false, false, false, false, false, false, false, false, false, false] rfl rfl (any_of HT_.out (by kernel_rfl)) (fun _ _ _ h => h) (Or.inl ⟨by rfl, fun w' => by go_simp⟩) rfl ?_
  refine pure_ (i := 5) (N := some 33) (v := .pointer (some ⟨w.heap.size + 1, 3, none⟩)) #[true, false, true, false, false, true, false, false, false, false, false, false, false, false, false, false, false, false, false] rfl rfl (any_of HT_.out (by kernel_rfl)) (fun _ _ _ h => h) (Or.inl ⟨by rfl, fun w' => by go_simp⟩) rfl ?_
  refine pure_ (i := 7) (N := some 35) (v := .pointer (some ⟨w.heap.size + 1, 7, none⟩)) #[true, false, true, false, false, true, false, true, false, false, false, false, false, false, false, false, false, false, false] rfl rfl (any_of HT_.out (by kernel_rfl)) (fun _ _ _ h => h) (Or.inl ⟨by rfl, fun w' => by go_simp⟩) rfl ?_
  simp only [Act.put, List.setIfInBounds_toArray, List.set_cons_zero, List.set_cons_succ]
  refine take_ (i := 1) (N := some 29) (v := .string r1) #[true, true, true, false, false, true, false, true, false, false, false, false, false, false, false, false, false, false, false] rfl rfl (take_ofW HT_.out HW_.out (by kernel_rfl)) (fun _ _ _ h => h) (Or.inl ⟨by rfl, fun w' hS => by obtain ⟨s0, s1, s2, s3⟩ := hS; go_simp⟩) hHeld rfl ?_
  refine pure_ (i := 9) (N := some 37) (v := .pointer (some ⟨w.heap.size + 3, 1, none⟩)) #[true, true, true, false, false, true, false, true, false, true, false, false, false, false, false, false, false, false, false] rfl rfl (any_of HT_.out (by kernel_rfl)) (fun _ _ _ h => h) (Or.inl ⟨by rfl, fun w' => by go_simp⟩) rfl ?_
  refine take_ (i := 3) (N := some 31) (v := .string r2) #[true, true, true, true, false, true, false, true, false, true, false, false, false, false, false, false, false, false, false] rfl rfl (take_ofW HT_.out HW_.out (by kernel_rfl)) (fun _ _ _ h => h) (Or.inl ⟨by rfl, fun w' hS => by obtain ⟨s0, s1, s2, s3⟩ := hS; go_simp⟩) hHeld rfl ?_
  refine take_ (i := 6) (N := some 34) (v := .string r3) #[true, true, true, true, false, true, true, true, false, true, false, false, false, false, false, false, false, false, false] rfl rfl (take_ofW HT_.out HW_.out (by kernel_rfl)) (fun _ _ _ h => h) (Or.inl ⟨by rfl, fun w' hS => by obtain ⟨s0, s1, s2, s3⟩ := hS; go_simp⟩) hHeld rfl ?_
  refine take_ (i := 8) (N := some 36) (v := .bool r7) #[true, true, true, true, false, true, true, true, true, true, false, false, false, false, false, false, false, false, false] rfl rfl (take_ofW HT_.out HW_.out (by kernel_rfl)) (fun _ _ _ h => h) (Or.inl ⟨by rfl, fun w' hS => by obtain ⟨s0, s1, s2, s3⟩ := hS; go_simp⟩) hHeld rfl ?_
  simp only [Act.put, List.setIfInBounds_toArray, List.set_cons_zero, List.set_cons_succ]
  refine one_ (i := 4) (N := some 32) #[true, true, true, true, true, true, true, true, true, true, false, false, false, false, false, false, false, false, false] rfl rfl (one_of HT_.out (by kernel_rfl)) (by decide) (fun K hK => ?_)
  refine goes_ Tryd.func17 (by kernel_rfl) rfl #[.string r2] (by rfl) rfl rfl (by simp only [List.map_toArray, List.map_cons, List.map_nil]; rfl) ?_
  refine (broadsheetref12_Dots.calls k r2 d _ hd).mono ?_
  rintro x w2 ⟨rfl, h⟩
  replace h := Drawn0.below h
  have kr := blk_below kr h
  have kz := blk_below kz h
  have kt := blk_below kt h
  have hb := below_step hb h
  clear h
  refine ⟨_, rfl, ?_⟩
  refine hK.out _ _ ⟨(blk_cell kr 1).trans rfl, (blk_cell kr 2).trans rfl, (blk_cell kr 3).trans rfl, (blk_cell kr 7).trans rfl⟩ (fun hHeld => ?_)
  clear hK K
  simp only [Act.put, List.setIfInBounds_toArray, List.set_cons_zero, List.set_cons_succ]
  have kr10 := blk_far kr (p := ⟨w.heap.size + 3, 1, none⟩) (by show w.heap.size + 1 ≠ w.heap.size + 3; omega) (.string r1)
  have kz10 := blk_far kz (p := ⟨w.heap.size + 3, 1, none⟩) (by show w.heap.size + 2 ≠ w.heap.size + 3; omega) (.string r1)
  have hb10 := Below.setCell (p := ⟨w.heap.size + 3, 1, none⟩) hb (by show w.heap.size ≤ w.heap.size + 3; omega) (.string r1)
  refine one_store (i := 10) (w1 := (w2.setCell ⟨w.heap.size + 3, 1, none⟩ (.string r1))) #[true, true, true, true, true, true, true, true, true, true, true, false, false, false, false, false, false, false, false] rfl rfl (one_of HT_.out (by kernel_rfl)) (by decide) (fun _ => rfl) (store_str _ w2 (w.heap.size + 3) 1 _ _ _ _ r1 (.string ⟨#[]⟩) rfl rfl ((blk_cell kt 1).trans rfl) (blk_frozen kt 1)) ⟨(blk_cell kr10 1).trans rfl, (blk_cell kr10 2).trans rfl, (blk_cell kr10 3).trans rfl, (blk_cell kr10 7).trans rfl⟩ ?_
  have kt10 : (w2.setCell ⟨w.heap.size + 3, 1, none⟩ (.string r1)).heap[w.heap.size + 3]? = some (.cells (uriC b0 r1 ⟨#[]⟩ ⟨#[]⟩ r4 b5 false false r8) 24 (0, 0)) := blk_put kt 1 _ rfl
  clear kr kz kt hb hHeld
  intro hHeld
  generalize (w2.setCell ⟨w.heap.size + 3, 1, none⟩ (.string r1)) = w10 at *
  have kr := kr10
  have kz := kz10
  have kt := kt10
  have hb := hb10
  clear kr10 kz10 kt10 hb10
  refine pure_ (i := 11) (N := some 38) (v := .pointer (some ⟨w.heap.size + 3, 6, none⟩)) #[true, true, true, true, true, true, true, true, true, true, true, true, false, false, false, false, false, false, false] rfl rfl (any_of HT_.out (by kernel_rfl)) (fun _ _ _ h => h) (Or.inl ⟨by rfl, fun w' => by go_simp⟩) rfl ?_
  simp only [Act.put, List.setIfInBounds_toArray, List.set_cons_zero, List.set_cons_succ]
  have kr12 := blk_far kr (p := ⟨w.heap.size + 3, 6, none⟩) (by show w.heap.size + 1 ≠ w.heap.size + 3; omega) (.bool true)
  have kz12 := blk_far kz (p := ⟨w.heap.size + 3, 6, none⟩) (by show w.heap.size + 2 ≠ w.heap.size + 3; omega) (.bool true)
  have hb12 := Below.setCell (p := ⟨w.heap.size + 3, 6, none⟩) hb (by show w.heap.size ≤ w.heap.size + 3; omega) (.bool true)
  refine one_store (i := 12) (w1 := (w10.setCell ⟨w.heap.size + 3, 6, none⟩ (.bool true))) #[true, true, true, true, true, true, true, true, true, true, true, true, true, false, false, false, false, false, false] rfl rfl (one_of HT_.out (by kernel_rfl)) (by decide) (fun _ => rfl) (store_bool _ w10 (w.heap.size + 3) 6 _ _ _ _ true (.bool false) rfl rfl ((blk_cell kt 6).trans rfl) (blk_frozen kt 6)) ⟨(blk_cell kr12 1).trans rfl, (blk_cell kr12 2).trans rfl, (blk_cell kr12 3).trans rfl, (blk_cell kr12 7).trans rfl⟩ ?_
  have kt12 : (w10.setCell ⟨w.heap.size + 3, 6, none⟩ (.bool true)).heap[w.heap.size + 3]? = some (.cells (uriC b0 r1 ⟨#[]⟩ ⟨#[]⟩ r4 b5 true false r8) 24 (0, 0)) := blk_put kt 6 _ rfl
  clear kr kz kt hb hHeld
  intro hHeld
  generalize (w10.setCell ⟨w.heap.size + 3, 6, none⟩ (.bool true)) = w12 at *
  have kr := kr12
  have kz := kz12
  have kt := kt12
  have hb := hb12
  clear kr12 kz12 kt12 hb12
  refine pure_ (i := 13) (N := some 39) (v := .pointer (some ⟨w.heap.size + 3, 2, none⟩)) #[true, true, true, true, true, true, true, true, true, true, true, true, true, true, false, false, false, false, false] rfl rfl (any_of HT_.out (by kernel_rfl)) (fun _ _ _ h => h) (Or.inl ⟨by rfl, fun w' => by go_simp⟩) rfl ?_
  simp only [Act.put, List.setIfInBounds_toArray, List.set_cons_zero, List.set_cons_succ]
  have kr14 := blk_far kr (p := ⟨w.heap.size + 3, 2, none⟩) (by show w.heap.size + 1 ≠ w.heap.size + 3; omega) (.string d)
  have kz14 := blk_far kz (p := ⟨w.heap.size + 3, 2, none⟩) (by show w.heap.size + 2 ≠ w.heap.size + 3; omega) (.string d)
  have hb14 := Below.setCell (p := ⟨w.heap.size + 3, 2, none⟩) hb (by show w.heap.size ≤ w.heap.size + 3; omega) (.string d)
  refine one_store (i := 14) (w1 := (w12.setCell ⟨w.heap.size + 3, 2, none⟩ (.string d))) #[true, true, true, true, true, true, true, true, true, true, true, true, true, true, true, false, false, false, false] rfl rfl (one_of HT_.out (by kernel_rfl)) (by decide) (fun _ => rfl) (store_str _ w12 (w.heap.size + 3) 2 _ _ _ _ d (.string ⟨#[]⟩) rfl rfl ((blk_cell kt 2).trans rfl) (blk_frozen kt 2)) ⟨(blk_cell kr14 1).trans rfl, (blk_cell kr14 2).trans rfl, (blk_cell kr14 3).trans rfl, (blk_cell kr14 7).trans rfl⟩ ?_
  have kt14 : (w12.setCell ⟨w.heap.size + 3, 2, none⟩ (.string d)).heap[w.heap.size + 3]? = some (.cells (uriC b0 r1 d ⟨#[]⟩ r4 b5 true false r8) 24 (0, 0)) := blk_put kt 2 _ rfl
  clear kr kz kt hb hHeld
  intro hHeld
  generalize (w12.setCell ⟨w.heap.size + 3, 2, none⟩ (.string d)) = w14 at *
  have kr := kr14
  have kz := kz14
  have kt := kt14
  have hb := hb14
  clear kr14 kz14 kt14 hb14
  refine pure_ (i := 15) (N := some 40) (v := .pointer (some ⟨w.heap.size + 3, 3, none⟩)) #[true, true, true, true, true, true, true, true, true, true, true, true, true, true, true, true, false, false, false] rfl rfl (any_of HT_.out (by kernel_rfl)) (fun _ _ _ h => h) (Or.inl ⟨by rfl, fun w' => by go_simp⟩) rfl ?_
  simp only [Act.put, List.setIfInBounds_toArray, List.set_cons_zero, List.set_cons_succ]
  have kr16 := blk_far kr (p := ⟨w.heap.size + 3, 3, none⟩) (by show w.heap.size + 1 ≠ w.heap.size + 3; omega) (.string r3)
  have kz16 := blk_far kz (p := ⟨w.heap.size + 3, 3, none⟩) (by show w.heap.size + 2 ≠ w.heap.size + 3; omega) (.string r3)
  have hb16 := Below.setCell (p := ⟨w.heap.size + 3, 3, none⟩) hb (by show w.heap.size ≤ w.heap.size + 3; omega) (.string r3)
  refine one_store (i := 16) (w1 := (w14.setCell ⟨w.heap.size + 3, 3, none⟩ (.string r3))) #[true, true, true, true, true, true, true, true, true, true, true, true, true, true, true, true, true, false, false] rfl rfl (one_of HT_.out (by kernel_rfl)) (by decide) (fun _ => rfl) (store_str _ w14 (w.heap.size + 3) 3 _ _ _ _ r3 (.string ⟨#[]⟩) rfl rfl ((blk_cell kt 3).trans rfl) (blk_frozen kt 3)) ⟨(blk_cell kr16 1).trans rfl, (blk_cell kr16 2).trans rfl, (blk_cell kr16 3).trans rfl, (blk_cell kr16 7).trans rfl⟩ ?_
  have kt16 : (w14.setCell ⟨w.heap.size + 3, 3, none⟩ (.string r3)).heap[w.heap.size + 3]? = some (.cells (uriC b0 r1 d r3 r4 b5 true false r8) 24 (0, 0)) := blk_put kt 3 _ rfl
  clear kr kz kt hb hHeld
  intro hHeld
  generalize (w14.setCell ⟨w.heap.size + 3, 3, none⟩ (.string r3)) = w16 at *
  have kr := kr16
  have kz := kz16
  have kt := kt16
  have hb := hb16
  clear kr16 kz16 kt16 hb16
  refine pure_ (i := 17) (N := some 41) (v := .pointer (some ⟨w.heap.size + 3, 7, none⟩)) #[true, true, true, true, true, true, true, true, true, true, true, true, true, true, true, true, true, true, false] rfl rfl (any_of HT_.out (by kernel_rfl)) (fun _ _ _ h => h) (Or.inl ⟨by rfl, fun w' => by go_simp⟩) rfl ?_
  simp only [Act.put, List.setIfInBounds_toArray, List.set_cons_zero, List.set_cons_succ]
  have kr18 := blk_far kr (p := ⟨w.heap.size + 3, 7, none⟩) (by show w.heap.size + 1 ≠ w.heap.size + 3; omega) (.bool r7)
  have kz18 := blk_far kz (p := ⟨w.heap.size + 3, 7, none⟩) (by show w.heap.size + 2 ≠ w.heap.size + 3; omega) (.bool r7)
  have hb18 := Below.setCell (p := ⟨w.heap.size + 3, 7, none⟩) hb (by show w.heap.size ≤ w.heap.size + 3; omega) (.bool r7)
  refine one_store (i := 18) (w1 := (w16.setCell ⟨w.heap.size + 3, 7, none⟩ (.bool r7))) #[true, true, true, true, true, true, true, true, true, true, true, true, true, true, true, true, true, true, true] rfl rfl (one_of HT_.out (by kernel_rfl)) (by decide) (fun _ => rfl) (store_bool _ w16 (w.heap.size + 3) 7 _ _ _ _ r7 (.bool false) rfl rfl ((blk_cell kt 7).trans rfl) (blk_frozen kt 7)) ⟨(blk_cell kr18 1).trans rfl, (blk_cell kr18 2).trans rfl, (blk_cell kr18 3).trans rfl, (blk_cell kr18 7).trans rfl⟩ ?_
  have kt18 : (w16.setCell ⟨w.heap.size + 3, 7, none⟩ (.bool r7)).heap[w.heap.size + 3]? = some (.cells (uriC b0 r1 d r3 r4 b5 true r7 r8) 24 (0, 0)) := blk_put kt 7 _ rfl
  clear kr kz kt hb hHeld
  intro hHeld
  generalize (w16.setCell ⟨w.heap.size + 3, 7, none⟩ (.bool r7)) = w18 at *
  have kr := kr18
  have kz := kz18
  have kt := kt18
  have hb := hb18
  clear kr18 kz18 kt18 hb18
  refine done_ (done_of HT_.out (by kernel_rfl)) ?_
  clear hHeld
  have KZ := Aside0.mk kz
  have HB := Aside0.mk hb
  obtain ⟨⟨x0, x1, x2, x3, x4, x5, x6, x7, x8⟩, ⟨f0, f1, f2, f3, f4, f5, f6, f7, f8⟩⟩ := cells9 kt
  obtain ⟨⟨y0, y1, y2, y3, y4, y5, y6, y7, y8⟩, ⟨g0, g1, g2, g3, g4, g5, g6, g7, g8⟩⟩ := cells9 kz
  clear kr kt kz hb
  go_wp2
  exact bodyPost_ret (results_cell_row rfl _ _ (w.heap.size + 2) 24 _ (0, 0) _ rfl (put9 KZ.out) Tryd.underlying24 rfl (by kernel_rfl)) rfl ⟨rfl, below9' HB.out (by omega)⟩
end Go.Proofs.YtldancekpigkaaaDoor.X
namespace Go.Proofs.YtldancekpigkaaaDoor.X
open Go.RowKit Go.Shelf Go.Proofs.YtldancekpigkaaaDoorW.PrintWords Go.Proofs.YtldancekpigkaaaDoorW.PrintLast Go.Proofs.YtldancekpigkaaaDoorW.PrintMore Go.Proofs.YtldancekpigkaaaDoor.Pl
set_option linter.unusedVariables false
set_option maxHeartbeats 4000000 in
set_option maxRecDepth 100000 in
theorem ref_slash (k : Nat) (b0 b1 b2 b3 b4 : ByteArray) (b5 b6 b7 b8 : Bool) (r0 r1 r2 r3 r4 : ByteArray) (r7 r8 : Bool) (d : ByteArray) (hne : (r2.toList == ([] : List UInt8)) = false) (hbg : broadsheetref12_begins.f r2 ⟨#[47]⟩ = some true) (hd : broadsheetref12_Dots.f k (r2) = some d) (w : World) :
    Calls Tryd.prog 19 #[.agg (uriC b0 b1 b2 b3 b4 b5 b6 b7 b8), .agg (uriC r0 r1 r2 r3 r4 false false r7 r8)] w fun e w' => e = .returned (.agg (uriC b0 b1 d r3 r4 b5 b6 r7 r8)) ∧ Below w.heap.size w w' := by
  have hu24 := Tryd.underlying24
  have hne2 : (r2.toList != ([] : List UInt8)) = true := by unfold bne; rw [hne]; rfl
  have hne3 : r2.toList ≠ [] := by intro e; rw [e] at hne; exact absurd hne (by decide)
  obtain ⟨kb, kr, kz, hb⟩ := three_new w (.cells (uriC b0 b1 b2 b3 b4 b5 b6 b7 b8) 24) (.cells (uriC r0 r1 r2 r3 r4 false false r7 r8) 24) (.cells zeroC 24)
  obtain ⟨⟨z0, z1, z2, z3, z4, z5, z6, z7, z8⟩, _⟩ := cells9 kr
  obtain ⟨⟨x0, x1, x2, x3, x4, x5, x6, x7, x8⟩, _⟩ := cells9 kb
  clear kb kr kz hb
  go_enter Tryd.func19, Tryd.ntmps19
  go_wp2_with fail
  clear z0 z1 z2 z3 z4 z5 z6 z7 z8 x0 x1 x2 x3 x4 x5 x6 x7 x8
  obtain ⟨kb, kr, kz, kt, hb⟩ := four_new w (.cells (uriC b0 b1 b2 b3 b4 b5 b6 b7 b8) 24) (.cells (uriC r0 r1 r2 r3 r4 false false r7 r8) 24) (.cells zeroC 24) (.cells (uriC b0 ⟨#[]⟩ ⟨#[]⟩ ⟨#[]⟩ r4 b5 false false r8) 24)
  refine copy2 (t1 := 43) (t2 := 44) (t3 := 45) (t4 := 46) (t5 := 47) (t6 := 48) (s := 2) (d := 5) (i := 1) (j := 6) (p := "ref.go:174") (v1 := b1) (v2 := b6) ref_tab9 (fun _ _ _ _ _ h => h) (by decide) (by decide) (by decide) (by rfl) (by rfl) rfl rfl (by omega) kb kt rfl rfl rfl ?_
  replace kt := after_copyT (i := 1) (j := 6) (u := .string b1) (v := .bool b6) kb kr kz kt hb rfl
  clear kb kr kz hb
  obtain ⟨kb, kr, kz, kt, hb⟩ := kt
  generalize (World.setCell (World.setCell (World.drew _) ⟨w.heap.size + 3, 1, none⟩ (.string b1)) ⟨w.heap.size + 3, 6, none⟩ (.bool b6)) = w1 at kb kr kz kt hb ⊢
  simp only [Act.put, List.setIfInBounds_toArray, List.set_cons_zero, List.set_cons_succ] at kt ⊢
  have KB := Aside0.mk kb
  have KR := Aside0.mk kr
  have KZ := Aside0.mk kz
  have KT := Aside0.mk kt
  have HB := Aside0.mk hb
  obtain ⟨⟨x0, x1, x2, x3, x4, x5, x6, x7, x8⟩, _⟩ := cells9 kb
  obtain ⟨⟨z0, z1, z2, z3, z4, z5, z6, z7, z8⟩, _⟩ := cells9 kr
  clear kb kr kz kt hb
  go_wp2_with fail
  clear x0 x1 x2 x3 x4 x5 x6 x7 x8 z0 z1 z2 z3 z4 z5 z6 z7 z8
  refine (broadsheetref12_begins.calls r2 ⟨#[47]⟩ true _ hbg).mono ?_
  rintro x w2 ⟨rfl, h⟩
  replace h := Drawn0.below h
  have kb := KB.out
  have kr := KR.out
  have kz := KZ.out
  have kt := KT.out
  have hb := HB.out
  clear KB KR KZ KT HB
  have kb := blk_below kb h
  have kr := blk_below kr h
  have kz := blk_below kz h
  have kt := blk_below kt h
  have hb := below_step hb h
  clear h
  have KB := Aside0.mk kb
  have KR := Aside0.mk kr
  have KZ := Aside0.mk kz
  have KT := Aside0.mk kt
  have HB := Aside0.mk hb
  obtain ⟨⟨z0, z1, z2, z3, z4, z5, z6, z7, z8⟩, _⟩ := cells9 kr
  clear kb kr kz kt hb
  go_wp2_with fail
  clear z0 z1 z2 z3 z4 z5 z6 z7 z8
  with_reducible refine (broadsheetref12_Dots.calls k (r2) d _ hd).mono ?_
  rintro x w3 ⟨rfl, h⟩
  replace h := Drawn0.below h
  have kb := KB.out
  have kr := KR.out
  have kz := KZ.out
  have kt := KT.out
  have hb := HB.out
  clear KB KR KZ KT HB
  have kb := blk_below kb h
  have kr := blk_below kr h
  have kz := blk_below kz h
  have kt := blk_below kt h
  have hb := below_step hb h
  clear h
  have ft := blk_frozen kt 2
  have ct := (blk_cell kt 2).trans (show _ = some (Value.string ⟨#[]⟩) from rfl)
  have kr2 := blk_far kr (p := ⟨w.heap.size + 3, 2, none⟩) (by show w.heap.size + 1 ≠ w.heap.size + 3; omega) (.string d)
  have kz2 := blk_far kz (p := ⟨w.heap.size + 3, 2, none⟩) (by show w.heap.size + 2 ≠ w.heap.size + 3; omega) (.string d)
  have kt2 : (w3.setCell ⟨w.heap.size + 3, 2, none⟩ (.string d)).heap[w.heap.size + 3]? = some (.cells (uriC b0 b1 d ⟨#[]⟩ r4 b5 b6 false r8) 24 (0, 0)) := blk_put kt 2 _ rfl
  have hb2 := Below.setCell (p := ⟨w.heap.size + 3, 2, none⟩) hb (by show w.heap.size ≤ w.heap.size + 3; omega) (.string d)
  have KR := Aside0.mk kr2
  have KZ := Aside0.mk kz2
  have KT := Aside0.mk kt2
  have HB := Aside0.mk hb2
  clear kb kr kz kt hb kr2 kz2 kt2 hb2
  go_wp2_with fail
  clear ft ct
  have kr := KR.out
  have kz := KZ.out
  have kt := KT.out
  have hb := HB.out
  clear KR KZ KT HB
  refine copy2 (t1 := 114) (t2 := 115) (t3 := 116) (t4 := 117) (t5 := 118) (t6 := 119) (s := 3) (d := 5) (i := 3) (j := 7) (p := "ref.go:194") (v1 := r3) (v2 := r7) ref_tab24 (fun _ _ _ _ _ h => h) (by decide) (by decide) (by decide) (by rfl) (by rfl) rfl rfl (by omega) kr kt rfl rfl rfl ?_
  have kt3 : ((((w3.setCell ⟨w.heap.size + 3, 2, none⟩ (.string d)).drew.setCell ⟨w.heap.size + 3, 3, none⟩ (.string r3)).setCell ⟨w.heap.size + 3, 7, none⟩ (.bool r7))).heap[w.heap.size + 3]? = some (.cells (uriC b0 b1 d r3 r4 b5 b6 r7 r8) 24 (0, 0)) := blk_put (blk_set (blk_drew kt) 3 _) 7 _ rfl
  have kz3 := blk_far (blk_far (blk_drew kz) (p := ⟨w.heap.size + 3, 3, none⟩) (by show w.heap.size + 2 ≠ w.heap.size + 3; omega) (.string r3)) (p := ⟨w.heap.size + 3, 7, none⟩) (by show w.heap.size + 2 ≠ w.heap.size + 3; omega) (.bool r7)
  have hb3 := Below.setCell (p := ⟨w.heap.size + 3, 7, none⟩) (Below.setCell (p := ⟨w.heap.size + 3, 3, none⟩) (below_drew1 hb) (by show w.heap.size ≤ w.heap.size + 3; omega) (.string r3)) (by show w.heap.size ≤ w.heap.size + 3; omega) (.bool r7)
  clear kr kz kt hb
  generalize (World.setCell (World.setCell (World.drew _) ⟨w.heap.size + 3, 3, none⟩ (.string r3)) ⟨w.heap.size + 3, 7, none⟩ (.bool r7)) = w9 at kt3 kz3 hb3 ⊢
  simp only [Act.put, List.setIfInBounds_toArray, List.set_cons_zero, List.set_cons_succ]
  have KZ := Aside0.mk kz3
  have HB := Aside0.mk hb3
  obtain ⟨⟨x0, x1, x2, x3, x4, x5, x6, x7, x8⟩, ⟨f0, f1, f2, f3, f4, f5, f6, f7, f8⟩⟩ := cells9 kt3
  obtain ⟨⟨y0, y1, y2, y3, y4, y5, y6, y7, y8⟩, ⟨g0, g1, g2, g3, g4, g5, g6, g7, g8⟩⟩ := cells9 kz3
  clear kt3 kz3 hb3
  go_wp2
  exact bodyPost_ret (results_cell_row rfl _ _ (w.heap.size + 2) 24 _ (0, 0) _ rfl (put9 KZ.out) Tryd.underlying24 rfl (by kernel_rfl)) rfl ⟨rfl, below9' HB.out (by omega)⟩
set_option maxHeartbeats 4000000 in
set_option maxRecDepth 100000 in
theorem ref_root (k : Nat) (b0 b1 b2 b3 b4 : ByteArray) (b5 b6 b7 b8 : Bool) (r0 r1 r2 r3 r4 : ByteArray) (r7 r8 : Bool) (d : ByteArray) (hne : (r2.toList == ([] : List UInt8)) = false) (hbg : broadsheetref12_begins.f r2 ⟨#[47]⟩ = some false) (hb6 : b6 = true) (hbe : (b2.toList == ([] : List UInt8)) = true) (hz : r2.size ≤ 4611686018427387904) (hd : broadsheetref12_Dots.f k (⟨#[47]⟩ ++ r2) = some d) (w : World) :
    Calls Tryd.prog 19 #[.agg (uriC b0 b1 b2 b3 b4 b5 true b7 b8), .agg (uriC r0 r1 r2 r3 r4 false false r7 r8)] w fun e w' => e = .returned (.agg (uriC b0 b1 d r3 r4 b5 b6 r7 r8)) ∧ Below w.heap.size w w' := by
  subst hb6
  have hbe2 : (b2.toList != ([] : List UInt8)) = false := by unfold bne; rw [hbe]; rfl
  have HADD := Aside0.mk (show (9223372036854775807 < 1 + r2.size) = False from eq_false (by omega))
  clear hz
  have hu24 := Tryd.underlying24
  have hne2 : (r2.toList != ([] : List UInt8)) = true := by unfold bne; rw [hne]; rfl
  have hne3 : r2.toList ≠ [] := by intro e; rw [e] at hne; exact absurd hne (by decide)
  obtain ⟨kb, kr, kz, hb⟩ := three_new w (.cells (uriC b0 b1 b2 b3 b4 b5 true b7 b8) 24) (.cells (uriC r0 r1 r2 r3 r4 false false r7 r8) 24) (.cells zeroC 24)
  obtain ⟨⟨z0, z1, z2, z3, z4, z5, z6, z7, z8⟩, _⟩ := cells9 kr
  obtain ⟨⟨x0, x1, x2, x3, x4, x5, x6, x7, x8⟩, _⟩ := cells9 kb
  clear kb kr kz hb
  go_enter Tryd.func19, Tryd.ntmps19
  go_wp2_with fail
  clear z0 z1 z2 z3 z4 z5 z6 z7 z8 x0 x1 x2 x3 x4 x5 x6 x7 x8
  obtain ⟨kb, kr, kz, kt, hb⟩ := four_new w (.cells (uriC b0 b1 b2 b3 b4 b5 true b7 b8) 24) (.cells (uriC r0 r1 r2 r3 r4 false false r7 r8) 24) (.cells zeroC 24) (.cells (uriC b0 ⟨#[]⟩ ⟨#[]⟩ ⟨#[]⟩ r4 b5 false false r8) 24)
  refine copy2 (t1 := 43) (t2 := 44) (t3 := 45) (t4 := 46) (t5 := 47) (t6 := 48) (s := 2) (d := 5) (i := 1) (j := 6) (p := "ref.go:174") (v1 := b1) (v2 := true) ref_tab9 (fun _ _ _ _ _ h => h) (by decide) (by decide) (by decide) (by rfl) (by rfl) rfl rfl (by omega) kb kt rfl rfl rfl ?_
  replace kt := after_copyT (i := 1) (j := 6) (u := .string b1) (v := .bool true) kb kr kz kt hb rfl
  clear kb kr kz hb
  obtain ⟨kb, kr, kz, kt, hb⟩ := kt
  generalize (World.setCell (World.setCell (World.drew _) ⟨w.heap.size + 3, 1, none⟩ (.string b1)) ⟨w.heap.size + 3, 6, none⟩ (.bool true)) = w1 at kb kr kz kt hb ⊢
  simp only [Act.put, List.setIfInBounds_toArray, List.set_cons_zero, List.set_cons_succ] at kt ⊢
  have KB := Aside0.mk kb
  have KR := Aside0.mk kr
  have KZ := Aside0.mk kz
  have KT := Aside0.mk kt
  have HB := Aside0.mk hb
  obtain ⟨⟨x0, x1, x2, x3, x4, x5, x6, x7, x8⟩, _⟩ := cells9 kb
  obtain ⟨⟨z0, z1, z2, z3, z4, z5, z6, z7, z8⟩, _⟩ := cells9 kr
  clear kb kr kz kt hb
  go_wp2_with fail
  clear x0 x1 x2 x3 x4 x5 x6 x7 x8 z0 z1 z2 z3 z4 z5 z6 z7 z8
  refine (broadsheetref12_begins.calls r2 ⟨#[47]⟩ false _ hbg).mono ?_
  rintro x w2 ⟨rfl, h⟩
  replace h := Drawn0.below h
  have kb := KB.out
  have kr := KR.out
  have kz := KZ.out
  have kt := KT.out
  have hb := HB.out
  clear KB KR KZ KT HB
  have kb := blk_below kb h
  have kr := blk_below kr h
  have kz := blk_below kz h
  have kt := blk_below kt h
  have hb := below_step hb h
  clear h
  have KB := Aside0.mk kb
  have KR := Aside0.mk kr
  have KZ := Aside0.mk kz
  have KT := Aside0.mk kt
  have HB := Aside0.mk hb
  obtain ⟨⟨x0, x1, x2, x3, x4, x5, x6, x7, x8⟩, _⟩ := cells9 kb
  obtain ⟨⟨z0, z1, z2, z3, z4, z5, z6, z7, z8⟩, _⟩ := cells9 kr
  clear kb kr kz kt hb
  have hadd := HADD.out
  go_wp2_with fail
  clear hadd
  clear x0 x1 x2 x3 x4 x5 x6 x7 x8 z0 z1 z2 z3 z4 z5 z6 z7 z8
  with_reducible refine (broadsheetref12_Dots.calls k (⟨#[47]⟩ ++ r2) d _ hd).mono ?_
  rintro x w3 ⟨rfl, h⟩
  replace h := Drawn0.below h
  have kb := KB.out
  have kr := KR.out
  have kz := KZ.out
  have kt := KT.out
  have hb := HB.out
  clear KB KR KZ KT HB
  have kb := blk_below kb h
  have kr := blk_below kr h
  have kz := blk_below kz h
  have kt := blk_below kt h
  have hb := below_step hb h
  clear h
  have ft := blk_frozen kt 2
  have ct := (blk_cell kt 2).trans (show _ = some (Value.string ⟨#[]⟩) from rfl)
  have kr2 := blk_far kr (p := ⟨w.heap.size + 3, 2, none⟩) (by show w.heap.size + 1 ≠ w.heap.size + 3; omega) (.string d)
  have kz2 := blk_far kz (p := ⟨w.heap.size + 3, 2, none⟩) (by show w.heap.size + 2 ≠ w.heap.size + 3; omega) (.string d)
  have kt2 : (w3.setCell ⟨w.heap.size + 3, 2, none⟩ (.string d)).heap[w.heap.size + 3]? = some (.cells (uriC b0 b1 d ⟨#[]⟩ r4 b5 true false r8) 24 (0, 0)) := blk_put kt 2 _ rfl
  have hb2 := Below.setCell (p := ⟨w.heap.size + 3, 2, none⟩) hb (by show w.heap.size ≤ w.heap.size + 3; omega) (.string d)
  have KR := Aside0.mk kr2
  have KZ := Aside0.mk kz2
  have KT := Aside0.mk kt2
  have HB := Aside0.mk hb2
  clear kb kr kz kt hb kr2 kz2 kt2 hb2
  go_wp2_with fail
  clear ft ct
  have kr := KR.out
  have kz := KZ.out
  have kt := KT.out
  have hb := HB.out
  clear KR KZ KT HB
  refine copy2 (t1 := 114) (t2 := 115) (t3 := 116) (t4 := 117) (t5 := 118) (t6 := 119) (s := 3) (d := 5) (i := 3) (j := 7) (p := "ref.go:194") (v1 := r3) (v2 := r7) ref_tab24 (fun _ _ _ _ _ h => h) (by decide) (by decide) (by decide) (by rfl) (by rfl) rfl rfl (by omega) kr kt rfl rfl rfl ?_
  have kt3 : ((((w3.setCell ⟨w.heap.size + 3, 2, none⟩ (.string d)).drew.setCell ⟨w.heap.size + 3, 3, none⟩ (.string r3)).setCell ⟨w.heap.size + 3, 7, none⟩ (.bool r7))).heap[w.heap.size + 3]? = some (.cells (uriC b0 b1 d r3 r4 b5 true r7 r8) 24 (0, 0)) := blk_put (blk_set (blk_drew kt) 3 _) 7 _ rfl
  have kz3 := blk_far (blk_far (blk_drew kz) (p := ⟨w.heap.size + 3, 3, none⟩) (by show w.heap.size + 2 ≠ w.heap.size + 3; omega) (.string r3)) (p := ⟨w.heap.size + 3, 7, none⟩) (by show w.heap.size + 2 ≠ w.heap.size + 3; omega) (.bool r7)
  have hb3 := Below.setCell (p := ⟨w.heap.size + 3, 7, none⟩) (Below.setCell (p := ⟨w.heap.size + 3, 3, none⟩) (below_drew1 hb) (by show w.heap.size ≤ w.heap.size + 3; omega) (.string r3)) (by show w.heap.size ≤ w.heap.size + 3; omega) (.bool r7)
  clear kr kz kt hb
  generalize (World.setCell (World.setCell (World.drew _) ⟨w.heap.size + 3, 3, none⟩ (.string r3)) ⟨w.heap.size + 3, 7, none⟩ (.bool r7)) = w9 at kt3 kz3 hb3 ⊢
  simp only [Act.put, List.setIfInBounds_toArray, List.set_cons_zero, List.set_cons_succ]
  have KZ := Aside0.mk kz3
  have HB := Aside0.mk hb3
  obtain ⟨⟨x0, x1, x2, x3, x4, x5, x6, x7, x8⟩, ⟨f0, f1, f2, f3, f4, f5, f6, f7, f8⟩⟩ := cells9 kt3
  obtain ⟨⟨y0, y1, y2, y3, y4, y5, y6, y7, y8⟩, ⟨g0, g1, g2, g3, g4, g5, g6, g7, g8⟩⟩ := cells9 kz3
  clear kt3 kz3 hb3
  go_wp2
  exact bodyPost_ret (results_cell_row rfl _ _ (w.heap.size + 2) 24 _ (0, 0) _ rfl (put9 KZ.out) Tryd.underlying24 rfl (by kernel_rfl)) rfl ⟨rfl, below9' HB.out (by omega)⟩
end Go.Proofs.YtldancekpigkaaaDoor.X
namespace Go.Proofs.YtldancekpigkaaaDoor.X
open Go.RowKit Go.Shelf Go.Proofs.YtldancekpigkaaaDoorW.PrintWords Go.Proofs.YtldancekpigkaaaDoorW.PrintLast Go.Proofs.YtldancekpigkaaaDoorW.PrintMore Go.Proofs.YtldancekpigkaaaDoor.Pl
set_option linter.unusedVariables false
def refT13 : Bool × List (List Nat × List Nat) := (true, [([], []), ([0], [0]), ([], []), ([1, 2], [1, 2]), ([], []), ([4], [4]), ([3, 5], [3, 5]), ([6], [6]), ([0, 1, 2, 3, 4, 5, 6, 7], []), ([8, 7, 7, 0, 1, 2, 3, 4, 5, 6, 7], [7, 8])])
def refB13 : List Nat := [0, 1, 0, 7, 0, 16, 63, 127, 255, 511]
theorem ref_tab13 : rtab .any (opsOf Tryd.f19 13) = refT13 := by kernel_rfl
theorem ref_bits13 : waitsOk refT13.2 refB13 = true := by kernel_rfl
theorem last_step (s : ByteArray) (j : Nat) (h : j < s.size) : Lib.lastIdx s 47 (j + 1) = if (((s[j]'h).toNat : Int) = 47) then (j : Int) else Lib.lastIdx s 47 j := by
  have e : s.data[j]! = s[j]'h := getElem!_pos s.data j h
  by_cases hc : (((s[j]'h).toNat : Int) = 47)
  · rw [if_pos hc]; exact Lib.lastIdx_hit s 47 j (by rw [e]; exact hc)
  · rw [if_neg hc]; exact Lib.lastIdx_miss s 47 j (by rw [e]; exact hc)
set_option maxHeartbeats 4000000 in
set_option maxRecDepth 100000 in
theorem ref_last1 (k : Nat) (b0 b1 b2 b3 b4 : ByteArray) (b5 b7 b8 : Bool) (r0 r1 r2 r3 r4 : ByteArray) (r7 r8 : Bool) (d : ByteArray) (hne : (r2.toList == ([] : List UInt8)) = false) (hbg : broadsheetref12_begins.f r2 ⟨#[47]⟩ = some false) (hz : b2.size + r2.size ≤ 4611686018427387904) (hd : broadsheetref12_Dots.f k (b2.extract 0 (Lib.lastIndexByte b2 47 + 1).toNat ++ r2) = some d) (w : World) :
    Calls Tryd.prog 19 #[.agg (uriC b0 b1 b2 b3 b4 b5 false b7 b8), .agg (uriC r0 r1 r2 r3 r4 false false r7 r8)] w fun e w' => e = .returned (.agg (uriC b0 b1 d r3 r4 b5 false r7 r8)) ∧ Below w.heap.size w w' := by
  have HZ := Aside0.mk hz
  clear hz
  have hu24 := Tryd.underlying24
  have hne2 : (r2.toList != ([] : List UInt8)) = true := by unfold bne; rw [hne]; rfl
  have hne3 : r2.toList ≠ [] := by intro e; rw [e] at hne; exact absurd hne (by decide)
  obtain ⟨kb, kr, kz, hb⟩ := three_new w (.cells (uriC b0 b1 b2 b3 b4 b5 false b7 b8) 24) (.cells (uriC r0 r1 r2 r3 r4 false false r7 r8) 24) (.cells zeroC 24)
  obtain ⟨⟨z0, z1, z2, z3, z4, z5, z6, z7, z8⟩, _⟩ := cells9 kr
  obtain ⟨⟨x0, x1, x2, x3, x4, x5, x6, x7, x8⟩, _⟩ := cells9 kb
  clear kb kr kz hb
  go_enter Tryd.func19, Tryd.ntmps19
  go_wp2_with fail
  clear z0 z1 z2 z3 z4 z5 z6 z7 z8 x0 x1 x2 x3 x4 x5 x6 x7 x8
  obtain ⟨kb, kr, kz, kt, hb⟩ := four_new w (.cells (uriC b0 b1 b2 b3 b4 b5 false b7 b8) 24) (.cells (uriC r0 r1 r2 r3 r4 false false r7 r8) 24) (.cells zeroC 24) (.cells (uriC b0 ⟨#[]⟩ ⟨#[]⟩ ⟨#[]⟩ r4 b5 false false r8) 24)
  refine copy2 (t1 := 43) (t2 := 44) (t3 := 45) (t4 := 46) (t5 := 47) (t6 := 48) (s := 2) (d := 5) (i := 1) (j := 6) (p := "ref.go:174") (v1 := b1) (v2 := false) ref_tab9 (fun _ _ _ _ _ h => h) (by decide) (by decide) (by decide) (by rfl) (by rfl) rfl rfl (by omega) kb kt rfl rfl rfl ?_
  replace kt := after_copyT (i := 1) (j := 6) (u := .string b1) (v := .bool false) kb kr kz kt hb rfl
  clear kb kr kz hb
  obtain ⟨kb, kr, kz, kt, hb⟩ := kt
  generalize (World.setCell (World.setCell (World.drew _) ⟨w.heap.size + 3, 1, none⟩ (.string b1)) ⟨w.heap.size + 3, 6, none⟩ (.bool false)) = w1 at kb kr kz kt hb ⊢
  simp only [Act.put, List.setIfInBounds_toArray, List.set_cons_zero, List.set_cons_succ] at kt ⊢
  have KB := Aside0.mk kb
  have KR := Aside0.mk kr
  have KZ := Aside0.mk kz
  have KT := Aside0.mk kt
  have HB := Aside0.mk hb
  obtain ⟨⟨x0, x1, x2, x3, x4, x5, x6, x7, x8⟩, -⟩ := cells9 kb
  obtain ⟨⟨z0, z1, z2, z3, z4, z5, z6, z7, z8⟩, -⟩ := cells9 kr
  clear kb kr kz kt hb
  go_wp2_with fail
  clear x0 x1 x2 x3 x4 x5 x6 x7 x8 z0 z1 z2 z3 z4 z5 z6 z7 z8
  refine (broadsheetref12_begins.calls r2 ⟨#[47]⟩ false _ hbg).mono ?_
  rintro x w2 ⟨rfl, h⟩
  replace h := Drawn0.below h
  have kb := KB.out
  have kr := KR.out
  have kz := KZ.out
  have kt := KT.out
  have hb := HB.out
  clear KB KR KZ KT HB
  have kb := blk_below kb h
  have kr := blk_below kr h
  have kz := blk_below kz h
  have kt := blk_below kt h
  have hb := below_step hb h
  clear h
  have KB := Aside0.mk kb
  have KR := Aside0.mk kr
  have KZ := Aside0.mk kz
  have KT := Aside0.mk kt
  have HB := Aside0.mk hb
  obtain ⟨⟨x0, x1, x2, x3, x4, x5, x6, x7, x8⟩, -⟩ := cells9 kb
  clear kb kr kz kt hb
  go_upto_block 2 with (fail)
  go_cut [6] (fun v6 wc => ∃ n : Nat, v6 = .int .i64 n ∧ wc = w2 ∧ Aside0 ((n : Int) = Lib.lastIndexByte b2 47 + 1 ∧ n ≤ b2.size))
  case first =>
    go_wp2
    go_loopg [6] (b2.size + 1) (fun kq v6 wr => ∃ j : Nat, v6 = .int .i64 j ∧ wr = w2 ∧ Aside0 (Lib.lastIdx b2 47 j = Lib.lastIndexByte b2 47) ∧ Aside0 (j + 1 = kq ∧ j ≤ b2.size))
    case atStart => exact ⟨b2.size, rfl, rfl, ⟨rfl⟩, ⟨rfl, Nat.le_refl _⟩⟩
    case round =>
      obtain ⟨j, rfl, hw, HE, HK⟩ := hrel
      subst hw
      cases gk with
      | zero => exact absurd HK.out (by omega)
      | succ k1 =>
        cases j with
        | zero =>
          go_wp2
          go_meet
          case rel => exact ⟨0, rfl, rfl, ⟨by have := HE.out; rw [show Lib.lastIdx b2 47 0 = -1 from rfl] at this; omega, by omega⟩⟩
        | succ j =>
          have hjs : j < b2.size := by have := HK.out; omega
          have HST := Aside0.mk (last_step b2 j hjs)
          have hwj : wrap64 (j : Int) = (j : Int) := by have := HZ.out; unfold wrap64; omega
          have hj1 := eq_true (show (j : Int) < (b2.size : Int) by omega)
          by_cases hc : ((b2[j]'hjs).toNat : Int) = 47
          · have hq : (((b2[j]'hjs).toNat : Int) != 47) = false := bne_eq_false_iff_eq.mpr hc
            have HC := Aside0.mk hc
            clear hc
            go_wp2
            go_meet
            case rel => exact ⟨j + 1, rfl, rfl, ⟨by have e1 := HE.out; rw [HST.out, if_pos HC.out] at e1; omega, hjs⟩⟩
          · have hq : (((b2[j]'hjs).toNat : Int) != 47) = true := bne_iff_ne.mpr hc
            have HC := Aside0.mk hc
            clear hc
            go_wp2
            go_roundg k1
            case measure => have := HK.out; omega
            case rel => exact ⟨j, congrArg (Value.int IntKind.i64) hwj, rfl, ⟨by rw [← HE.out, HST.out, if_neg HC.out]⟩, ⟨by have := HK.out; omega, by omega⟩⟩
  case rest =>
    obtain ⟨n, rfl, hw, HN⟩ := hcut
    subst hw
    go_wp2_with fail
    clear x0 x1 x2 x3 x4 x5 x6 x7 x8
    have kb := KB.out
    have kr := KR.out
    have kz := KZ.out
    have kt := KT.out
    have hb := HB.out
    clear KB KR KZ KT HB
    have hn2 : (Lib.lastIndexByte b2 47 + 1).toNat = n := by have := HN.out.1; omega
    rw [hn2] at hd
    have hle := HN.out.2
    have hle1 := eq_true (show (n : Int) ≤ (b2.size : Int) by omega)
    have hle2 := eq_true (show n ≤ b2.size by omega)
    have hsum := eq_false (show ¬ 9223372036854775807 < n + r2.size by have := HZ.out; omega)
    have hsum2 := eq_false (show ¬ 9223372036854775807 < (b2.extract 0 n).size + r2.size by rw [ByteArray.size_extract]; have := HZ.out; omega)
    refine start_ (n := 10) (S := fun w' => w'.cell? ⟨w.heap.size, 2, none⟩ = some (.string b2) ∧ w'.cell? ⟨w.heap.size + 1, 2, none⟩ = some (.string r2)) (ds := []) #[false, false, false, false, false, false, false, false, false, false] (by kernel_rfl) rfl rfl ⟨(blk_cell kb 2).trans rfl, (blk_cell kr 2).trans rfl⟩ (fun hHeld => ?_)
    refine with_tabW ref_tab13 ref_bits13 (fun HT_ HW_ => ?_)
    replace kb := blk_drew kb
    replace kr := blk_drew kr
    replace kz := blk_drew kz
    replace kt := blk_drew kt
    replace hb := below_drew1 hb
    generalize World.drew _ = w5 at kb kr kz kt hb hHeld ⊢
    refine pure_ (i := 0) (N := some 64) (v := .pointer (some ⟨w.heap.size, 2, none⟩)) #[true, false, false, false, false, false, false, false, false, false] rfl rfl (any_of HT_.out (by kernel_rfl)) (fun _ _ _ h => h) (Or.inl ⟨by rfl, fun w' => by go_simp⟩) rfl ?_
    refine pure_ (i := 2) (N := some 66) (v := .int .i64 n) #[true, false, true, false, false, false, false, false, false, false] rfl rfl (any_of HT_.out (by kernel_rfl)) (fun _ _ _ h => h) (Or.inl ⟨by rfl, fun w' => by go_simp⟩) rfl ?_
    refine pure_ (i := 4) (N := some 68) (v := .pointer (some ⟨w.heap.size + 1, 2, none⟩)) #[true, false, true, false, true, false, false, false, false, false] rfl rfl (any_of HT_.out (by kernel_rfl)) (fun _ _ _ h => h) (Or.inl ⟨by rfl, fun w' => by go_simp⟩) rfl ?_
    simp only [Act.put, List.setIfInBounds_toArray, List.set_cons_zero, List.set_cons_succ]
    refine take_ (i := 1) (N := some 65) (v := .string b2) #[true, true, true, false, true, false, false, false, false, false] rfl rfl (take_ofW HT_.out HW_.out (by kernel_rfl)) (fun _ _ _ h => h) (Or.inl ⟨by rfl, fun w' hS => by obtain ⟨s0, s1⟩ := hS; go_simp⟩) hHeld rfl ?_
    simp only [Act.put, List.setIfInBounds_toArray, List.set_cons_zero, List.set_cons_succ]
    refine pure_ (i := 3) (N := some 67) (v := .string (b2.extract 0 n)) #[true, true, true, true, true, false, false, false, false, false] rfl rfl (any_of HT_.out (by kernel_rfl)) (fun _ _ _ h => h) (Or.inl ⟨by rfl, fun w' => by go_simp⟩) rfl ?_
    refine take_ (i := 5) (N := some 69) (v := .string r2) #[true, true, true, true, true, true, false, false, false, false] rfl rfl (take_ofW HT_.out HW_.out (by kernel_rfl)) (fun _ _ _ h => h) (Or.inl ⟨by rfl, fun w' hS => by obtain ⟨s0, s1⟩ := hS; go_simp⟩) hHeld rfl ?_
    simp only [Act.put, List.setIfInBounds_toArray, List.set_cons_zero, List.set_cons_succ]
    refine pure_ (i := 6) (N := some 70) (v := .string (b2.extract 0 n ++ r2)) #[true, true, true, true, true, true, true, false, false, false] rfl rfl (any_of HT_.out (by kernel_rfl)) (fun _ _ _ h => h) (Or.inl ⟨by rfl, fun w' => by go_simp⟩) rfl ?_
    simp only [Act.put, List.setIfInBounds_toArray, List.set_cons_zero, List.set_cons_succ]
    clear hle hle1 hle2 hsum hsum2
    refine one_ (i := 7) (N := some 71) #[true, true, true, true, true, true, true, true, false, false] rfl rfl (one_of HT_.out (by kernel_rfl)) (by decide) (fun K hK => ?_)
    refine goes_ Tryd.func17 (by kernel_rfl) rfl #[.string (b2.extract 0 n ++ r2)] (by rfl) rfl rfl (by simp only [List.map_toArray, List.map_cons, List.map_nil]; rfl) ?_
    with_reducible refine (broadsheetref12_Dots.calls k (b2.extract 0 n ++ r2) d _ hd).mono ?_
    rintro x w6 ⟨rfl, h⟩
    replace h := Drawn0.below h
    have kb := blk_below kb h
    have kr := blk_below kr h
    have kz := blk_below kz h
    have kt := blk_below kt h
    have hb := below_step hb h
    clear h
    refine ⟨_, rfl, ?_⟩
    refine hK.out _ _ ⟨(blk_cell kb 2).trans rfl, (blk_cell kr 2).trans rfl⟩ (fun hHeld => ?_)
    clear hK K
    simp only [Act.put, List.setIfInBounds_toArray, List.set_cons_zero, List.set_cons_succ]
    refine pure_ (i := 8) (N := some 72) (v := .pointer (some ⟨w.heap.size + 3, 2, none⟩)) #[true, true, true, true, true, true, true, true, true, false] rfl rfl (any_of HT_.out (by kernel_rfl)) (fun _ _ _ h => h) (Or.inl ⟨by rfl, fun w' => by go_simp⟩) rfl ?_
    simp only [Act.put, List.setIfInBounds_toArray, List.set_cons_zero, List.set_cons_succ]
    have kb9 := blk_far kb (p := ⟨w.heap.size + 3, 2, none⟩) (by show w.heap.size ≠ w.heap.size + 3; omega) (.string d)
    have kr9 := blk_far kr (p := ⟨w.heap.size + 3, 2, none⟩) (by show w.heap.size + 1 ≠ w.heap.size + 3; omega) (.string d)
    have kz9 := blk_far kz (p := ⟨w.heap.size + 3, 2, none⟩) (by show w.heap.size + 2 ≠ w.heap.size + 3; omega) (.string d)
    have hb9 := Below.setCell (p := ⟨w.heap.size + 3, 2, none⟩) hb (by show w.heap.size ≤ w.heap.size + 3; omega) (.string d)
    refine one_store (i := 9) (w1 := (w6.setCell ⟨w.heap.size + 3, 2, none⟩ (.string d))) #[true, true, true, true, true, true, true, true, true, true] rfl rfl (one_of HT_.out (by kernel_rfl)) (by decide) (fun _ => rfl) (store_str _ w6 (w.heap.size + 3) 2 _ _ _ _ d (.string ⟨#[]⟩) rfl rfl ((blk_cell kt 2).trans rfl) (blk_frozen kt 2)) ⟨(blk_cell kb9 2).trans rfl, (blk_cell kr9 2).trans rfl⟩ ?_
    have kt9 : (w6.setCell ⟨w.heap.size + 3, 2, none⟩ (.string d)).heap[w.heap.size + 3]? = some (.cells (uriC b0 b1 d ⟨#[]⟩ r4 b5 false false r8) 24 (0, 0)) := blk_put kt 2 _ rfl
    clear kb kr kz kt hb hHeld
    intro hHeld
    generalize (w6.setCell ⟨w.heap.size + 3, 2, none⟩ (.string d)) = w8 at *
    have kr := kr9
    have kz := kz9
    have kt := kt9
    have hb := hb9
    clear kb9 kr9 kz9 kt9 hb9
    refine done_ (done_of HT_.out (by kernel_rfl)) ?_
    clear hHeld
    go_wp2_with fail
    refine copy2 (t1 := 114) (t2 := 115) (t3 := 116) (t4 := 117) (t5 := 118) (t6 := 119) (s := 3) (d := 5) (i := 3) (j := 7) (p := "ref.go:194") (v1 := r3) (v2 := r7) ref_tab24 (fun _ _ _ _ _ h => h) (by decide) (by decide) (by decide) (by rfl) (by rfl) rfl rfl (by omega) kr kt rfl rfl rfl ?_
    have kt3 : ((((w8).drew.setCell ⟨w.heap.size + 3, 3, none⟩ (.string r3)).setCell ⟨w.heap.size + 3, 7, none⟩ (.bool r7))).heap[w.heap.size + 3]? = some (.cells (uriC b0 b1 d r3 r4 b5 false r7 r8) 24 (0, 0)) := blk_put (blk_set (blk_drew kt) 3 _) 7 _ rfl
    have kz3 := blk_far (blk_far (blk_drew kz) (p := ⟨w.heap.size + 3, 3, none⟩) (by show w.heap.size + 2 ≠ w.heap.size + 3; omega) (.string r3)) (p := ⟨w.heap.size + 3, 7, none⟩) (by show w.heap.size + 2 ≠ w.heap.size + 3; omega) (.bool r7)
    have hb3 := Below.setCell (p := ⟨w.heap.size + 3, 7, none⟩) (Below.setCell (p := ⟨w.heap.size + 3, 3, none⟩) (below_drew1 hb) (by show w.heap.size ≤ w.heap.size + 3; omega) (.string r3)) (by show w.heap.size ≤ w.heap.size + 3; omega) (.bool r7)
    clear kr kz kt hb
    generalize (World.setCell (World.setCell (World.drew _) ⟨w.heap.size + 3, 3, none⟩ (.string r3)) ⟨w.heap.size + 3, 7, none⟩ (.bool r7)) = w9 at kt3 kz3 hb3 ⊢
    simp only [Act.put, List.setIfInBounds_toArray, List.set_cons_zero, List.set_cons_succ]
    have KZ := Aside0.mk kz3
    have HB := Aside0.mk hb3
    obtain ⟨⟨x0, x1, x2, x3, x4, x5, x6, x7, x8⟩, ⟨f0, f1, f2, f3, f4, f5, f6, f7, f8⟩⟩ := cells9 kt3
    obtain ⟨⟨y0, y1, y2, y3, y4, y5, y6, y7, y8⟩, ⟨g0, g1, g2, g3, g4, g5, g6, g7, g8⟩⟩ := cells9 kz3
    clear kt3 kz3 hb3
    go_wp2
    exact bodyPost_ret (results_cell_row rfl _ _ (w.heap.size + 2) 24 _ (0, 0) _ rfl (put9 KZ.out) Tryd.underlying24 rfl (by kernel_rfl)) rfl ⟨rfl, below9' HB.out (by omega)⟩
set_option maxHeartbeats 4000000 in
set_option maxRecDepth 100000 in
theorem ref_last2 (k : Nat) (b0 b1 b2 b3 b4 : ByteArray) (b5 b7 b8 : Bool) (r0 r1 r2 r3 r4 : ByteArray) (r7 r8 : Bool) (d : ByteArray) (hne : (r2.toList == ([] : List UInt8)) = false) (hbg : broadsheetref12_begins.f r2 ⟨#[47]⟩ = some false) (hbe : (b2.toList == ([] : List UInt8)) = false) (hz : b2.size + r2.size ≤ 4611686018427387904) (hd : broadsheetref12_Dots.f k (b2.extract 0 (Lib.lastIndexByte b2 47 + 1).toNat ++ r2) = some d) (w : World) :
    Calls Tryd.prog 19 #[.agg (uriC b0 b1 b2 b3 b4 b5 true b7 b8), .agg (uriC r0 r1 r2 r3 r4 false false r7 r8)] w fun e w' => e = .returned (.agg (uriC b0 b1 d r3 r4 b5 true r7 r8)) ∧ Below w.heap.size w w' := by
  have hbe2 : (b2.toList != ([] : List UInt8)) = true := by unfold bne; rw [hbe]; rfl
  have HZ := Aside0.mk hz
  clear hz
  have hu24 := Tryd.underlying24
  have hne2 : (r2.toList != ([] : List UInt8)) = true := by unfold bne; rw [hne]; rfl
  have hne3 : r2.toList ≠ [] := by intro e; rw [e] at hne; exact absurd hne (by decide)
  obtain ⟨kb, kr, kz, hb⟩ := three_new w (.cells (uriC b0 b1 b2 b3 b4 b5 true b7 b8) 24) (.cells (uriC r0 r1 r2 r3 r4 false false r7 r8) 24) (.cells zeroC 24)
  obtain ⟨⟨z0, z1, z2, z3, z4, z5, z6, z7, z8⟩, _⟩ := cells9 kr
  obtain ⟨⟨x0, x1, x2, x3, x4, x5, x6, x7, x8⟩, _⟩ := cells9 kb
  clear kb kr kz hb
  go_enter Tryd.func19, Tryd.ntmps19
  go_wp2_with fail
  clear z0 z1 z2 z3 z4 z5 z6 z7 z8 x0 x1 x2 x3 x4 x5 x6 x7 x8
  obtain ⟨kb, kr, kz, kt, hb⟩ := four_new w (.cells (uriC b0 b1 b2 b3 b4 b5 true b7 b8) 24) (.cells (uriC r0 r1 r2 r3 r4 false false r7 r8) 24) (.cells zeroC 24) (.cells (uriC b0 ⟨#[]⟩ ⟨#[]⟩ ⟨#[]⟩ r4 b5 false false r8) 24)
  refine copy2 (t1 := 43) (t2 := 44) (t3 := 45) (t4 := 46) (t5 := 47) (t6 := 48) (s := 2) (d := 5) (i := 1) (j := 6) (p := "ref.go:174") (v1 := b1) (v2 := true) ref_tab9 (fun _ _ _ _ _ h => h) (by decide) (by decide) (by decide) (by rfl) (by rfl) rfl rfl (by omega) kb kt rfl rfl rfl ?_
  replace kt := after_copyT (i := 1) (j := 6) (u := .string b1) (v := .bool true) kb kr kz kt hb rfl
  clear kb kr kz hb
  obtain ⟨kb, kr, kz, kt, hb⟩ := kt
  generalize (World.setCell (World.setCell (World.drew _) ⟨w.heap.size + 3, 1, none⟩ (.string b1)) ⟨w.heap.size + 3, 6, none⟩ (.bool true)) = w1 at kb kr kz kt hb ⊢
  simp only [Act.put, List.setIfInBounds_toArray, List.set_cons_zero, List.set_cons_succ] at kt ⊢
  have KB := Aside0.mk kb
  have KR := Aside0.mk kr
  have KZ := Aside0.mk kz
  have KT := Aside0.mk kt
  have HB := Aside0.mk hb
  obtain ⟨⟨x0, x1, x2, x3, x4, x5, x6, x7, x8⟩, -⟩ := cells9 kb
  obtain ⟨⟨z0, z1, z2, z3, z4, z5, z6, z7, z8⟩, -⟩ := cells9 kr
  clear kb kr kz kt hb
  go_wp2_with fail
  clear x0 x1 x2 x3 x4 x5 x6 x7 x8 z0 z1 z2 z3 z4 z5 z6 z7 z8
  refine (broadsheetref12_begins.calls r2 ⟨#[47]⟩ false _ hbg).mono ?_
  rintro x w2 ⟨rfl, h⟩
  replace h := Drawn0.below h
  have kb := KB.out
  have kr := KR.out
  have kz := KZ.out
  have kt := KT.out
  have hb := HB.out
  clear KB KR KZ KT HB
  have kb := blk_below kb h
  have kr := blk_below kr h
  have kz := blk_below kz h
  have kt := blk_below kt h
  have hb := below_step hb h
  clear h
  have KB := Aside0.mk kb
  have KR := Aside0.mk kr
  have KZ := Aside0.mk kz
  have KT := Aside0.mk kt
  have HB := Aside0.mk hb
  obtain ⟨⟨x0, x1, x2, x3, x4, x5, x6, x7, x8⟩, -⟩ := cells9 kb
  clear kb kr kz kt hb
  go_upto_block 2 with (fail)
  go_cut [6] (fun v6 wc => ∃ n : Nat, v6 = .int .i64 n ∧ wc = w2 ∧ Aside0 ((n : Int) = Lib.lastIndexByte b2 47 + 1 ∧ n ≤ b2.size))
  case first =>
    go_wp2
    go_loopg [6] (b2.size + 1) (fun kq v6 wr => ∃ j : Nat, v6 = .int .i64 j ∧ wr = w2 ∧ Aside0 (Lib.lastIdx b2 47 j = Lib.lastIndexByte b2 47) ∧ Aside0 (j + 1 = kq ∧ j ≤ b2.size))
    case atStart => exact ⟨b2.size, rfl, rfl, ⟨rfl⟩, ⟨rfl, Nat.le_refl _⟩⟩
    case round =>
      obtain ⟨j, rfl, hw, HE, HK⟩ := hrel
      subst hw
      cases gk with
      | zero => exact absurd HK.out (by omega)
      | succ k1 =>
        cases j with
        | zero =>
          go_wp2
          go_meet
          case rel => exact ⟨0, rfl, rfl, ⟨by have := HE.out; rw [show Lib.lastIdx b2 47 0 = -1 from rfl] at this; omega, by omega⟩⟩
        | succ j =>
          have hjs : j < b2.size := by have := HK.out; omega
          have HST := Aside0.mk (last_step b2 j hjs)
          have hwj : wrap64 (j : Int) = (j : Int) := by have := HZ.out; unfold wrap64; omega
          have hj1 := eq_true (show (j : Int) < (b2.size : Int) by omega)
          by_cases hc : ((b2[j]'hjs).toNat : Int) = 47
          · have hq : (((b2[j]'hjs).toNat : Int) != 47) = false := bne_eq_false_iff_eq.mpr hc
            have HC := Aside0.mk hc
            clear hc
            go_wp2
            go_meet
            case rel => exact ⟨j + 1, rfl, rfl, ⟨by have e1 := HE.out; rw [HST.out, if_pos HC.out] at e1; omega, hjs⟩⟩
          · have hq : (((b2[j]'hjs).toNat : Int) != 47) = true := bne_iff_ne.mpr hc
            have HC := Aside0.mk hc
            clear hc
            go_wp2
            go_roundg k1
            case measure => have := HK.out; omega
            case rel => exact ⟨j, congrArg (Value.int IntKind.i64) hwj, rfl, ⟨by rw [← HE.out, HST.out, if_neg HC.out]⟩, ⟨by have := HK.out; omega, by omega⟩⟩
  case rest =>
    obtain ⟨n, rfl, hw, HN⟩ := hcut
    subst hw
    go_wp2_with fail
    clear x0 x1 x2 x3 x4 x5 x6 x7 x8
    have kb := KB.out
    have kr := KR.out
    have kz := KZ.out
    have kt := KT.out
    have hb := HB.out
    clear KB KR KZ KT HB
    have hn2 : (Lib.lastIndexByte b2 47 + 1).toNat = n := by have := HN.out.1; omega
    rw [hn2] at hd
    have hle := HN.out.2
    have hle1 := eq_true (show (n : Int) ≤ (b2.size : Int) by omega)
    have hle2 := eq_true (show n ≤ b2.size by omega)
    have hsum := eq_false (show ¬ 9223372036854775807 < n + r2.size by have := HZ.out; omega)
    have hsum2 := eq_false (show ¬ 9223372036854775807 < (b2.extract 0 n).size + r2.size by rw [ByteArray.size_extract]; have := HZ.out; omega)
    refine start_ (n := 10) (S := fun w' => w'.cell? ⟨w.heap.size, 2, none⟩ = some (.string b2) ∧ w'.cell? ⟨w.heap.size + 1, 2, none⟩ = some (.string r2)) (ds := []) #[false, false, false, false, false, false, false, false, false, false] (by kernel_rfl) rfl rfl ⟨(blk_cell kb 2).trans rfl, (blk_cell kr 2).trans rfl⟩ (fun hHeld => ?_)
    refine with_tabW ref_tab13 ref_bits13 (fun HT_ HW_ => ?_)
    replace kb := blk_drew kb
    replace kr := blk_drew kr
    replace kz := blk_drew kz
    replace kt := blk_drew kt
    replace hb := below_drew1 hb
    generalize World.drew _ = w5 at kb kr kz kt hb hHeld ⊢
    refine pure_ (i := 0) (N := some 64) (v := .pointer (some ⟨w.heap.size, 2, none⟩)) #[true, false, false, false, false, false, false, false, false, false] rfl rfl (any_of HT_.out (by kernel_rfl)) (fun _ _ _ h => h) (Or.inl ⟨by rfl, fun w' => by go_simp⟩) rfl ?_
    refine pure_ (i := 2) (N := some 66) (v := .int .i64 n) #[true, false, true, false, false, false, false, false, false, false] rfl rfl (any_of HT_.out (by kernel_rfl)) (fun _ _ _ h => h) (Or.inl ⟨by rfl, fun w' => by go_simp⟩) rfl ?_
    refine pure_ (i := 4) (N := some 68) (v := .pointer (some ⟨w.heap.size + 1, 2, none⟩)) #[true, false, true, false, true, false, false, false, false, false] rfl rfl (any_of HT_.out (by kernel_rfl)) (fun _ _ _ h => h) (Or.inl ⟨by rfl, fun w' => by go_simp⟩) rfl ?_
    simp only [Act.put, List.setIfInBounds_toArray, List.set_cons_zero, List.set_cons_succ]
    refine take_ (i := 1) (N := some 65) (v := .string b2) #[true, true, true, false, true, false, false, false, false, false] rfl rfl (take_ofW HT_.out HW_.out (by kernel_rfl)) (fun _ _ _ h => h) (Or.inl ⟨by rfl, fun w' hS => by obtain ⟨s0, s1⟩ := hS; go_simp⟩) hHeld rfl ?_
    simp only [Act.put, List.setIfInBounds_toArray, List.set_cons_zero, List.set_cons_succ]
    refine pure_ (i := 3) (N := some 67) (v := .string (b2.extract 0 n)) #[true, true, true, true, true, false, false, false, false, false] rfl rfl (any_of HT_.out (by kernel_rfl)) (fun _ _ _ h => h) (Or.inl ⟨by rfl, fun w' => by go_simp⟩) rfl ?_
    refine take_ (i := 5) (N := some 69) (v := .string r2) #[true, true, true, true, true, true, false, false, false, false] rfl rfl (take_ofW HT_.out HW_.out (by kernel_rfl)) (fun _ _ _ h => h) (Or.inl ⟨by rfl, fun w' hS => by obtain ⟨s0, s1⟩ := hS; go_simp⟩) hHeld rfl ?_
    simp only [Act.put, List.setIfInBounds_toArray, List.set_cons_zero, List.set_cons_succ]
    refine pure_ (i := 6) (N := some 70) (v := .string (b2.extract 0 n ++ r2)) #[true, true, true, true, true, true, true, false, false, false] rfl rfl (any_of HT_.out (by kernel_rfl)) (fun _ _ _ h => h) (Or.inl ⟨by rfl, fun w' => by go_simp⟩) rfl ?_
    simp only [Act.put, List.setIfInBounds_toArray, List.set_cons_zero, List.set_cons_succ]
    clear hle hle1 hle2 hsum hsum2
    refine one_ (i := 7) (N := some 71) #[true, true, true, true, true, true, true, true, false, false] rfl rfl (one_of HT_.out (by kernel_rfl)) (by decide) (fun K hK => ?_)
    refine goes_ Tryd.func17 (by kernel_rfl) rfl #[.string (b2.extract 0 n ++ r2)] (by rfl) rfl rfl (by simp only [List.map_toArray, List.map_cons, List.map_nil]; rfl) ?_
    with_reducible refine (broadsheetref12_Dots.calls k (b2.extract 0 n ++ r2) d _ hd).mono ?_
    rintro x w6 ⟨rfl, h⟩
    replace h := Drawn0.below h
    have kb := blk_below kb h
    have kr := blk_below kr h
    have kz := blk_below kz h
    have kt := blk_below kt h
    have hb := below_step hb h
    clear h
    refine ⟨_, rfl, ?_⟩
    refine hK.out _ _ ⟨(blk_cell kb 2).trans rfl, (blk_cell kr 2).trans rfl⟩ (fun hHeld => ?_)
    clear hK K
    simp only [Act.put, List.setIfInBounds_toArray, List.set_cons_zero, List.set_cons_succ]
    refine pure_ (i := 8) (N := some 72) (v := .pointer (some ⟨w.heap.size + 3, 2, none⟩)) #[true, true, true, true, true, true, true, true, true, false] rfl rfl (any_of HT_.out (by kernel_rfl)) (fun _ _ _ h => h) (Or.inl ⟨by rfl, fun w' => by go_simp⟩) rfl ?_
    simp only [Act.put, List.setIfInBounds_toArray, List.set_cons_zero, List.set_cons_succ]
    have kb9 := blk_far kb (p := ⟨w.heap.size + 3, 2, none⟩) (by show w.heap.size ≠ w.heap.size + 3; omega) (.string d)
    have kr9 := blk_far kr (p := ⟨w.heap.size + 3, 2, none⟩) (by show w.heap.size + 1 ≠ w.heap.size + 3; omega) (.string d)
    have kz9 := blk_far kz (p := ⟨w.heap.size + 3, 2, none⟩) (by show w.heap.size + 2 ≠ w.heap.size + 3; omega) (.string d)
    have hb9 := Below.setCell (p := ⟨w.heap.size + 3, 2, none⟩) hb (by show w.heap.size ≤ w.heap.size + 3; omega) (.string d)
    refine one_store (i := 9) (w1 := (w6.setCell ⟨w.heap.size + 3, 2, none⟩ (.string d))) #[true, true, true, true, true, true, true, true, true, true] rfl rfl (one_of HT_.out (by kernel_rfl)) (by decide) (fun _ => rfl) (store_str _ w6 (w.heap.size + 3) 2 _ _ _ _ d (.string ⟨#[]⟩) rfl rfl ((blk_cell kt 2).trans rfl) (blk_frozen kt 2)) ⟨(blk_cell kb9 2).trans rfl, (blk_cell kr9 2).trans rfl⟩ ?_
    have kt9 : (w6.setCell ⟨w.heap.size + 3, 2, none⟩ (.string d)).heap[w.heap.size + 3]? = some (.cells (uriC b0 b1 d ⟨#[]⟩ r4 b5 true false r8) 24 (0, 0)) := blk_put kt 2 _ rfl
    clear kb kr kz kt hb hHeld
    intro hHeld
    generalize (w6.setCell ⟨w.heap.size + 3, 2, none⟩ (.string d)) = w8 at *
    have kr := kr9
    have kz := kz9
    have kt := kt9
    have hb := hb9
    clear kb9 kr9 kz9 kt9 hb9
    refine done_ (done_of HT_.out (by kernel_rfl)) ?_
    clear hHeld
    go_wp2_with fail
    refine copy2 (t1 := 114) (t2 := 115) (t3 := 116) (t4 := 117) (t5 := 118) (t6 := 119) (s := 3) (d := 5) (i := 3) (j := 7) (p := "ref.go:194") (v1 := r3) (v2 := r7) ref_tab24 (fun _ _ _ _ _ h => h) (by decide) (by decide) (by decide) (by rfl) (by rfl) rfl rfl (by omega) kr kt rfl rfl rfl ?_
    have kt3 : ((((w8).drew.setCell ⟨w.heap.size + 3, 3, none⟩ (.string r3)).setCell ⟨w.heap.size + 3, 7, none⟩ (.bool r7))).heap[w.heap.size + 3]? = some (.cells (uriC b0 b1 d r3 r4 b5 true r7 r8) 24 (0, 0)) := blk_put (blk_set (blk_drew kt) 3 _) 7 _ rfl
    have kz3 := blk_far (blk_far (blk_drew kz) (p := ⟨w.heap.size + 3, 3, none⟩) (by show w.heap.size + 2 ≠ w.heap.size + 3; omega) (.string r3)) (p := ⟨w.heap.size + 3, 7, none⟩) (by show w.heap.size + 2 ≠ w.heap.size + 3; omega) (.bool r7)
    have hb3 := Below.setCell (p := ⟨w.heap.size + 3, 7, none⟩) (Below.setCell (p := ⟨w.heap.size + 3, 3, none⟩) (below_drew1 hb) (by show w.heap.size ≤ w.heap.size + 3; omega) (.string r3)) (by show w.heap.size ≤ w.heap.size + 3; omega) (.bool r7)
    clear kr kz kt hb
    generalize (World.setCell (World.setCell (World.drew _) ⟨w.heap.size + 3, 3, none⟩ (.string r3)) ⟨w.heap.size + 3, 7, none⟩ (.bool r7)) = w9 at kt3 kz3 hb3 ⊢
    simp only [Act.put, List.setIfInBounds_toArray, List.set_cons_zero, List.set_cons_succ]
    have KZ := Aside0.mk kz3
    have HB := Aside0.mk hb3
    obtain ⟨⟨x0, x1, x2, x3, x4, x5, x6, x7, x8⟩, ⟨f0, f1, f2, f3, f4, f5, f6, f7, f8⟩⟩ := cells9 kt3
    obtain ⟨⟨y0, y1, y2, y3, y4, y5, y6, y7, y8⟩, ⟨g0, g1, g2, g3, g4, g5, g6, g7, g8⟩⟩ := cells9 kz3
    clear kt3 kz3 hb3
    go_wp2
    exact bodyPost_ret (results_cell_row rfl _ _ (w.heap.size + 2) 24 _ (0, 0) _ rfl (put9 KZ.out) Tryd.underlying24 rfl (by kernel_rfl)) rfl ⟨rfl, below9' HB.out (by omega)⟩
/-- A reference's path, laid behind the base's. -/
def refPath (b2 : ByteArray) (b6 : Bool) (r2 : ByteArray) : ByteArray :=
  if Lib.hasPrefix r2.data.toList [47] = true then r2 else if b6 = true ∧ b2.toList = [] then (⟨#[47]⟩ : ByteArray) ++ r2 else b2.extract 0 (Lib.lastIndexByte b2 47 + 1).toNat ++ r2
theorem begins_slash (r2 : ByteArray) : broadsheetref12_begins.f r2 ⟨#[47]⟩ = some (Lib.hasPrefix r2.data.toList [47]) := by
  unfold broadsheetref12_begins.f
  have h1 : ((⟨#[47]⟩ : ByteArray).size : Int) = 1 := rfl
  rw [h1]
  cases e : r2.data.toList with
  | nil =>
    have hz : r2.size = 0 := by show r2.data.size = 0; rw [← Array.length_toList, e]; rfl
    rw [if_neg (by omega)]
    rfl
  | cons c t =>
    have hz : r2.size = t.length + 1 := by show r2.data.size = _; rw [← Array.length_toList, e]; rfl
    rw [if_pos (by omega), if_pos (by omega)]
    congr 1
    have hx : (r2.extract 0 (1 : Int).toNat).toList = [c] := by
      rw [U.toList_data, ByteArray.data_extract, Array.toList_extract, e]
      rfl
    rw [hx, show (⟨#[47]⟩ : ByteArray).toList = [47] from by rw [U.toList_data]]
    by_cases hc : c = 47
    · subst hc
      rfl
    · have e1 : ([c] == ([47] : List UInt8)) = false := beq_eq_false_iff_ne.mpr (fun h => hc (List.cons.inj h).1)
      have e2 : Lib.hasPrefix (c :: t) [47] = false := by
        show ((47 : UInt8) == c && true) = false
        rw [Bool.and_true]
        exact beq_eq_false_iff_ne.mpr (fun h => hc h.symm)
      rw [e1, e2]
theorem ref_path (k : Nat) (b0 b1 b2 b3 b4 : ByteArray) (b5 b6 b7 b8 : Bool) (r0 r1 r2 r3 r4 : ByteArray) (r7 r8 : Bool) (d : ByteArray) (hne : (r2.toList == ([] : List UInt8)) = false) (hz : b2.size + r2.size ≤ 4611686018427387000) (hd : broadsheetref12_Dots.f k (refPath b2 b6 r2) = some d) (w : World) :
    Calls Tryd.prog 19 #[.agg (uriC b0 b1 b2 b3 b4 b5 b6 b7 b8), .agg (uriC r0 r1 r2 r3 r4 false false r7 r8)] w fun e w' => e = .returned (.agg (uriC b0 b1 d r3 r4 b5 b6 r7 r8)) ∧ Below w.heap.size w w' := by
  have hbg := begins_slash r2
  unfold refPath at hd
  by_cases h1 : Lib.hasPrefix r2.data.toList [47] = true
  · rw [if_pos h1] at hd
    rw [h1] at hbg
    exact ref_slash k b0 b1 b2 b3 b4 b5 b6 b7 b8 r0 r1 r2 r3 r4 r7 r8 d hne hbg hd w
  · rw [if_neg h1] at hd
    rw [Bool.eq_false_iff.mpr h1] at hbg
    by_cases h2 : b6 = true ∧ b2.toList = []
    · rw [if_pos h2] at hd
      obtain ⟨rfl, h3⟩ := h2
      exact ref_root k b0 b1 b2 b3 b4 b5 true b7 b8 r0 r1 r2 r3 r4 r7 r8 d hne hbg rfl (beq_iff_eq.mpr h3) (by omega) hd w
    · rw [if_neg h2] at hd
      cases b6 with
      | false => exact ref_last1 k b0 b1 b2 b3 b4 b5 b7 b8 r0 r1 r2 r3 r4 r7 r8 d hne hbg (by omega) hd w
      | true => exact ref_last2 k b0 b1 b2 b3 b4 b5 b7 b8 r0 r1 r2 r3 r4 r7 r8 d hne hbg (beq_eq_false_iff_ne.mpr (fun e => h2 ⟨rfl, e⟩)) (by omega) hd w
end Go.Proofs.YtldancekpigkaaaDoor.X
namespace Go.Proofs.YtldancekpigkaaaDoor.Pl
open Go.RowKit Go.Proofs.YtldancekpigkaaaDoorW.PrintWords Go.Proofs.YtldancekpigkaaaDoorW.PrintLast Go.Proofs.YtldancekpigkaaaDoorW.PrintMore Go.Proofs.YtldancekpigkaaaDoor.X
set_option linter.unusedVariables false
def broadsheetref12_Resolve.f (k : Nat) (a0_0 : ByteArray) (a0_1 : ByteArray) (a0_2 : ByteArray) (a0_3 : ByteArray) (a0_4 : ByteArray) (a0_5 : Bool) (a0_6 : Bool) (a0_7 : Bool) (a0_8 : Bool) (a1_0 : ByteArray) (a1_1 : ByteArray) (a1_2 : ByteArray) (a1_3 : ByteArray) (a1_4 : ByteArray) (a1_5 : Bool) (a1_6 : Bool) (a1_7 : Bool) (a1_8 : Bool) : Option (ByteArray × ByteArray × ByteArray × ByteArray × ByteArray × Bool × Bool × Bool × Bool) :=
  if a1_5 = true then ((broadsheetref12_Dots.f k a1_2).bind fun t => (some (a1_0, a1_1, t, a1_3, a1_4, a1_5, a1_6, a1_7, a1_8)))
  else if a1_6 = true then ((broadsheetref12_Dots.f k a1_2).bind fun t => (some (a0_0, a1_1, t, a1_3, a1_4, a0_5, a1_6, a1_7, a1_8)))
  else if a1_2.toList = ([] : List UInt8) then (if a1_7 = true then (some (a0_0, a0_1, a0_2, a1_3, a1_4, a0_5, a0_6, a1_7, a1_8)) else (some (a0_0, a0_1, a0_2, a0_3, a1_4, a0_5, a0_6, a0_7, a1_8)))
  else if a0_2.size + a1_2.size ≤ 4611686018427387000 then ((broadsheetref12_Dots.f k (refPath a0_2 a0_6 a1_2)).bind fun t => (some (a0_0, a0_1, t, a1_3, a1_4, a0_5, a0_6, a1_7, a1_8)))
  else none
theorem broadsheetref12_Resolve.calls (k : Nat) (a0_0 : ByteArray) (a0_1 : ByteArray) (a0_2 : ByteArray) (a0_3 : ByteArray) (a0_4 : ByteArray) (a0_5 : Bool) (a0_6 : Bool) (a0_7 : Bool) (a0_8 : Bool) (a1_0 : ByteArray) (a1_1 : ByteArray) (a1_2 : ByteArray) (a1_3 : ByteArray) (a1_4 : ByteArray) (a1_5 : Bool) (a1_6 : Bool) (a1_7 : Bool) (a1_8 : Bool) (r1 : ByteArray) (r2 : ByteArray) (r3 : ByteArray) (r4 : ByteArray) (r5 : ByteArray) (r6 : Bool) (r7 : Bool) (r8 : Bool) (r9 : Bool) (w : World) (h : broadsheetref12_Resolve.f k a0_0 a0_1 a0_2 a0_3 a0_4 a0_5 a0_6 a0_7 a0_8 a1_0 a1_1 a1_2 a1_3 a1_4 a1_5 a1_6 a1_7 a1_8 = some (r1, r2, r3, r4, r5, r6, r7, r8, r9)) :
    Calls Tryd.prog 19 #[.agg #[.string a0_0, .string a0_1, .string a0_2, .string a0_3, .string a0_4, .bool a0_5, .bool a0_6, .bool a0_7, .bool a0_8], .agg #[.string a1_0, .string a1_1, .string a1_2, .string a1_3, .string a1_4, .bool a1_5, .bool a1_6, .bool a1_7, .bool a1_8]] w fun e w' => e = .returned (.agg #[.string r1, .string r2, .string r3, .string r4, .string r5, .bool r6, .bool r7, .bool r8, .bool r9]) ∧ Below w.heap.size w w' := by
  unfold broadsheetref12_Resolve.f at h
  by_cases c5 : a1_5 = true
  · rw [if_pos c5] at h
    obtain ⟨t, ht, h⟩ := Option.bind_eq_some_iff.mp h
    subst c5
    obtain ⟨rfl, rfl, rfl, rfl, rfl, rfl, rfl, rfl, rfl⟩ := by simpa only [Option.some.injEq, Prod.mk.injEq] using h
    exact ref_scheme k _ _ _ _ _ _ _ _ _ _ _ _ _ _ _ _ _ _ ht w
  · rw [if_neg c5] at h
    replace c5 := Bool.eq_false_iff.mpr c5
    subst c5
    by_cases c6 : a1_6 = true
    · rw [if_pos c6] at h
      obtain ⟨t, ht, h⟩ := Option.bind_eq_some_iff.mp h
      subst c6
      obtain ⟨rfl, rfl, rfl, rfl, rfl, rfl, rfl, rfl, rfl⟩ := by simpa only [Option.some.injEq, Prod.mk.injEq] using h
      exact ref_host k _ _ _ _ _ _ _ _ _ _ _ _ _ _ _ _ _ ht w
    · rw [if_neg c6] at h
      replace c6 := Bool.eq_false_iff.mpr c6
      subst c6
      by_cases c2 : a1_2.toList = ([] : List UInt8)
      · rw [if_pos c2] at h
        by_cases c7 : a1_7 = true
        · rw [if_pos c7] at h
          subst c7
          obtain ⟨rfl, rfl, rfl, rfl, rfl, rfl, rfl, rfl, rfl⟩ := by simpa only [Option.some.injEq, Prod.mk.injEq] using h
          exact ref_query k _ _ _ _ _ _ _ _ _ _ _ _ _ _ _ (beq_iff_eq.mpr c2) w
        · rw [if_neg c7] at h
          replace c7 := Bool.eq_false_iff.mpr c7
          subst c7
          obtain ⟨rfl, rfl, rfl, rfl, rfl, rfl, rfl, rfl, rfl⟩ := by simpa only [Option.some.injEq, Prod.mk.injEq] using h
          exact ref_same k _ _ _ _ _ _ _ _ _ _ _ _ _ _ _ (beq_iff_eq.mpr c2) w
      · rw [if_neg c2] at h
        by_cases hz : a0_2.size + a1_2.size ≤ 4611686018427387000
        · rw [if_pos hz] at h
          obtain ⟨t, ht, h⟩ := Option.bind_eq_some_iff.mp h
          obtain ⟨rfl, rfl, rfl, rfl, rfl, rfl, rfl, rfl, rfl⟩ := by simpa only [Option.some.injEq, Prod.mk.injEq] using h
          exact ref_path k _ _ _ _ _ _ _ _ _ _ _ _ _ _ _ _ _ (beq_eq_false_iff_ne.mpr c2) hz ht w
        · rw [if_neg hz] at h
          cases h
end Go.Proofs.YtldancekpigkaaaDoor.Pl
