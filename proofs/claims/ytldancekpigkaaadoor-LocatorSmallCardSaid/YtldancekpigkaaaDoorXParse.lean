/- locator.Parse and the reference's Parse, by hand: the parts, or a refusal. -/
import Derived.Test.YtldancekpigkaaaDoorXExt
import Derived.Test.YtldancekpigkaaaDoorPl0
namespace Go.Proofs.YtldancekpigkaaaDoor.X
open Go.RowKit Go.Shelf Go.Proofs.YtldancekpigkaaaDoorW.PrintWords Go.Proofs.YtldancekpigkaaaDoorW.PrintLast Go.Proofs.YtldancekpigkaaaDoorW.PrintMore

def badP (e : Int) (s6 sc b1 b2 b3 b4 : Bool) : Bool := (e != 0) || ((s6 && !sc) || (!b1 || (!b2 || (!b3 || !b4))))
abbrev uriC (a b c d e : ByteArray) (p q r t : Bool) : Array Value := #[.string a, .string b, .string c, .string d, .string e, .bool p, .bool q, .bool r, .bool t]
abbrev zeroC : Array Value := uriC ⟨#[]⟩ ⟨#[]⟩ ⟨#[]⟩ ⟨#[]⟩ ⟨#[]⟩ false false false false
theorem cells9 {w : World} {g : Nat} {t : TypeId} {v0 v1 v2 v3 v4 v5 v6 v7 v8 : Value} (h : w.heap[g]? = some (.cells #[v0, v1, v2, v3, v4, v5, v6, v7, v8] t (0, 0))) :
    (w.cell? ⟨g, 0, none⟩ = some v0 ∧ w.cell? ⟨g, 1, none⟩ = some v1 ∧ w.cell? ⟨g, 2, none⟩ = some v2 ∧ w.cell? ⟨g, 3, none⟩ = some v3 ∧ w.cell? ⟨g, 4, none⟩ = some v4 ∧ w.cell? ⟨g, 5, none⟩ = some v5 ∧ w.cell? ⟨g, 6, none⟩ = some v6 ∧ w.cell? ⟨g, 7, none⟩ = some v7 ∧ w.cell? ⟨g, 8, none⟩ = some v8) ∧ (w.frozen? ⟨g, 0, none⟩ = false ∧ w.frozen? ⟨g, 1, none⟩ = false ∧ w.frozen? ⟨g, 2, none⟩ = false ∧ w.frozen? ⟨g, 3, none⟩ = false ∧ w.frozen? ⟨g, 4, none⟩ = false ∧ w.frozen? ⟨g, 5, none⟩ = false ∧ w.frozen? ⟨g, 6, none⟩ = false ∧ w.frozen? ⟨g, 7, none⟩ = false ∧ w.frozen? ⟨g, 8, none⟩ = false) :=
  ⟨⟨(blk_cell h 0).trans rfl, (blk_cell h 1).trans rfl, (blk_cell h 2).trans rfl, (blk_cell h 3).trans rfl, (blk_cell h 4).trans rfl, (blk_cell h 5).trans rfl, (blk_cell h 6).trans rfl, (blk_cell h 7).trans rfl, (blk_cell h 8).trans rfl⟩, ⟨blk_frozen h 0, blk_frozen h 1, blk_frozen h 2, blk_frozen h 3, blk_frozen h 4, blk_frozen h 5, blk_frozen h 6, blk_frozen h 7, blk_frozen h 8⟩⟩
theorem put9 {w : World} {g : Nat} {t : TypeId} {v0 v1 v2 v3 v4 v5 v6 v7 v8 z0 z1 z2 z3 z4 z5 z6 z7 z8 : Value} (h : w.heap[g]? = some (.cells #[z0, z1, z2, z3, z4, z5, z6, z7, z8] t (0, 0))) :
    (((((((((w.setCell ⟨g, 0, none⟩ v0).setCell ⟨g, 1, none⟩ v1).setCell ⟨g, 2, none⟩ v2).setCell ⟨g, 3, none⟩ v3).setCell ⟨g, 4, none⟩ v4).setCell ⟨g, 5, none⟩ v5).setCell ⟨g, 6, none⟩ v6).setCell ⟨g, 7, none⟩ v7).setCell ⟨g, 8, none⟩ v8).heap[g]? = some (.cells #[v0, v1, v2, v3, v4, v5, v6, v7, v8] t (0, 0)) := by
  refine blk_put (cs := #[v0, v1, v2, v3, v4, v5, v6, v7, z8]) ?_ 8 _ rfl; refine blk_put (cs := #[v0, v1, v2, v3, v4, v5, v6, z7, z8]) ?_ 7 _ rfl; refine blk_put (cs := #[v0, v1, v2, v3, v4, v5, z6, z7, z8]) ?_ 6 _ rfl; refine blk_put (cs := #[v0, v1, v2, v3, v4, z5, z6, z7, z8]) ?_ 5 _ rfl; refine blk_put (cs := #[v0, v1, v2, v3, z4, z5, z6, z7, z8]) ?_ 4 _ rfl; refine blk_put (cs := #[v0, v1, v2, z3, z4, z5, z6, z7, z8]) ?_ 3 _ rfl; refine blk_put (cs := #[v0, v1, z2, z3, z4, z5, z6, z7, z8]) ?_ 2 _ rfl; refine blk_put (cs := #[v0, z1, z2, z3, z4, z5, z6, z7, z8]) ?_ 1 _ rfl; refine blk_put (cs := #[z0, z1, z2, z3, z4, z5, z6, z7, z8]) ?_ 0 _ rfl; exact h
theorem below9 {w0 w : World} {g : Nat} {v0 v1 v2 v3 v4 v5 v6 v7 v8 : Value} (h : Below g w0 w) : Below g w0 (((((((((w.setCell ⟨g, 0, none⟩ v0).setCell ⟨g, 1, none⟩ v1).setCell ⟨g, 2, none⟩ v2).setCell ⟨g, 3, none⟩ v3).setCell ⟨g, 4, none⟩ v4).setCell ⟨g, 5, none⟩ v5).setCell ⟨g, 6, none⟩ v6).setCell ⟨g, 7, none⟩ v7).setCell ⟨g, 8, none⟩ v8) := by
  refine Below.setCell (p := ⟨g, 8, none⟩) ?_ (Nat.le_refl _) _; refine Below.setCell (p := ⟨g, 7, none⟩) ?_ (Nat.le_refl _) _; refine Below.setCell (p := ⟨g, 6, none⟩) ?_ (Nat.le_refl _) _; refine Below.setCell (p := ⟨g, 5, none⟩) ?_ (Nat.le_refl _) _; refine Below.setCell (p := ⟨g, 4, none⟩) ?_ (Nat.le_refl _) _; refine Below.setCell (p := ⟨g, 3, none⟩) ?_ (Nat.le_refl _) _; refine Below.setCell (p := ⟨g, 2, none⟩) ?_ (Nat.le_refl _) _; refine Below.setCell (p := ⟨g, 1, none⟩) ?_ (Nat.le_refl _) _; refine Below.setCell (p := ⟨g, 0, none⟩) ?_ (Nat.le_refl _) _; exact h
theorem after9 {w0 w w' : World} {gu gz : Nat} {ou oz : Obj} (ku : w.heap[gu]? = some ou) (kz : w.heap[gz]? = some oz) (hb : Below gz w0 w) (h : Below w.heap.size w w') :
    w'.heap[gu]? = some ou ∧ w'.heap[gz]? = some oz ∧ Below gz w0 w' :=
  ⟨(h.block _ (Array.getElem?_eq_some_iff.1 ku).1).trans ku, (h.block _ (Array.getElem?_eq_some_iff.1 kz).1).trans kz, hb.trans (h.mono (Nat.le_of_lt (Array.getElem?_eq_some_iff.1 kz).1))⟩
set_option maxHeartbeats 4000000 in
set_option maxRecDepth 100000 in
theorem parse_walk (a0 s1 s2 s3 s4 s5 : ByteArray) (s6 s7 s8 s9 sc b1 b2 b3 b4 : Bool) (e : Int) (w : World) (hG : Glob w) 
    (CS : ∀ w, Calls Tryd.prog 22 #[.string a0] w fun x w' => x = .returned (.agg (uriC s1 s2 s3 s4 s5 s6 s7 s8 s9)) ∧ Below w.heap.size w w')
    (CE : ∀ w, Glob w → Calls Tryd.prog 23 #[.string a0] w fun x w' => x = .returned (.int .i64 e) ∧ Below w.heap.size w w')
    (CC : ∀ w, Calls Tryd.prog 24 #[.string s1] w fun x w' => x = .returned (.bool sc) ∧ Below w.heap.size w w')
    (C1 : ∀ w, Calls Tryd.prog 25 #[.string s2, .string ⟨#[91, 93]⟩] w fun x w' => x = .returned (.bool b1) ∧ Below w.heap.size w w')
    (C2 : ∀ w, Calls Tryd.prog 25 #[.string s3, .string ⟨#[47]⟩] w fun x w' => x = .returned (.bool b2) ∧ Below w.heap.size w w')
    (C3 : ∀ w, Calls Tryd.prog 25 #[.string s4, .string ⟨#[47, 63]⟩] w fun x w' => x = .returned (.bool b3) ∧ Below w.heap.size w w')
    (C4 : ∀ w, Calls Tryd.prog 25 #[.string s5, .string ⟨#[47, 63]⟩] w fun x w' => x = .returned (.bool b4) ∧ Below w.heap.size w w') :
    Calls Tryd.prog 11 #[.string a0] w fun x w' => x = .returned (if badP e s6 sc b1 b2 b3 b4 = true then .tuple #[.agg zeroC, .int .i64 120] else .tuple #[.agg (uriC s1 s2 s3 s4 s5 s6 s7 s8 s9), .int .i64 0]) ∧ Below w.heap.size w w' := by
  have HG := Lib.hid hG
  clear hG
  have hu24 := Tryd.underlying24
  obtain ⟨bad, hbad⟩ : ∃ x, badP e s6 sc b1 b2 b3 b4 = x := ⟨_, rfl⟩
  rw [hbad]
  have HBAD := Lib.hid hbad
  clear hbad
  go_enter Tryd.func11, Tryd.ntmps11
  go_wp2_with fail
  refine (CS _).mono ?_
  rintro x w1 ⟨rfl, h1⟩
  clear CS
  have kz : w1.heap[w.heap.size]? = some (.cells zeroC 24 (0, 0)) := (h1.block _ (by rw [World.size_alloc]; omega)).trans (blk_new w _)
  have hb1 : Below w.heap.size w w1 := ((Below.refl _ w).alloc (Nat.le_refl _) _).trans (h1.mono (by rw [World.size_alloc]; omega))
  have hlz : w.heap.size < w1.heap.size := (Array.getElem?_eq_some_iff.1 kz).1
  clear h1
  have KZ := Aside0.mk kz
  have HB := Aside0.mk hb1
  clear kz hb1
  go_wp2_with fail
  refine (CE _ (HG.out.below (HB.out.alloc (by omega) _))).mono ?_
  rintro x w2 ⟨rfl, h2⟩
  clear CE
  have ku : w2.heap[w1.heap.size]? = some (.cells (uriC s1 s2 s3 s4 s5 s6 s7 s8 s9) 24 (0, 0)) := (h2.block _ (by rw [World.size_alloc]; omega)).trans (blk_new w1 _)
  have kz : w2.heap[w.heap.size]? = some (.cells zeroC 24 (0, 0)) := (h2.block _ (by rw [World.size_alloc]; omega)).trans ((((Below.refl w1.heap.size w1).alloc (Nat.le_refl _) _).block _ hlz).trans KZ.out)
  have hb2 : Below w.heap.size w w2 := (HB.out.alloc (by omega) _).trans (h2.mono (by rw [World.size_alloc]; omega))
  clear h2 KZ HB
  generalize hgu : w1.heap.size = gu at *
  have KZ := Aside0.mk kz
  have KU := Aside0.mk ku
  have HB := Aside0.mk hb2
  clear kz ku hb2
  by_cases he : e = 0
  · subst he
    cases s6 with
    | false =>
      obtain ⟨⟨u0, u1, _, _, _, u5, _, _, _⟩, _⟩ := cells9 KU.out
      go_wp2_with fail
      clear u5 u0 u1
      refine (C1 _).mono ?_
      rintro x w3 ⟨rfl, h⟩
      obtain ⟨ku, kz, hb⟩ := after9 KU.out KZ.out HB.out h
      clear h KU KZ HB
      have KZ := Aside0.mk kz
      have KU := Aside0.mk ku
      have HB := Aside0.mk hb
      clear kz ku hb
      cases b1 with
      | false =>
        obtain ⟨⟨z0, z1, z2, z3, z4, z5, z6, z7, z8⟩, ⟨f0, f1, f2, f3, f4, f5, f6, f7, f8⟩⟩ := cells9 KZ.out
        have hv : bad = true := by rw [← HBAD.out]; simp [badP, *]
        subst hv
        go_wp2
        exact bodyPost_ret (results_ct rfl _ _ w.heap.size 24 _ (0, 0) _ rfl (put9 KZ.out) Tryd.underlying24 rfl (by kernel_rfl)) rfl ⟨rfl, below9 HB.out⟩
      | true =>
        obtain ⟨⟨_, _, u2, _, _, _, _, _, _⟩, _⟩ := cells9 KU.out
        go_wp2_with fail
        clear u2
        refine (C2 _).mono ?_
        rintro x w4 ⟨rfl, h⟩
        obtain ⟨ku, kz, hb⟩ := after9 KU.out KZ.out HB.out h
        clear h KU KZ HB
        have KZ := Aside0.mk kz
        have KU := Aside0.mk ku
        have HB := Aside0.mk hb
        clear kz ku hb
        cases b2 with
        | false =>
          obtain ⟨⟨z0, z1, z2, z3, z4, z5, z6, z7, z8⟩, ⟨f0, f1, f2, f3, f4, f5, f6, f7, f8⟩⟩ := cells9 KZ.out
          have hv : bad = true := by rw [← HBAD.out]; simp [badP, *]
          subst hv
          go_wp2
          exact bodyPost_ret (results_ct rfl _ _ w.heap.size 24 _ (0, 0) _ rfl (put9 KZ.out) Tryd.underlying24 rfl (by kernel_rfl)) rfl ⟨rfl, below9 HB.out⟩
        | true =>
          obtain ⟨⟨_, _, _, u3, _, _, _, _, _⟩, _⟩ := cells9 KU.out
          go_wp2_with fail
          clear u3
          refine (C3 _).mono ?_
          rintro x w5 ⟨rfl, h⟩
          obtain ⟨ku, kz, hb⟩ := after9 KU.out KZ.out HB.out h
          clear h KU KZ HB
          have KZ := Aside0.mk kz
          have KU := Aside0.mk ku
          have HB := Aside0.mk hb
          clear kz ku hb
          cases b3 with
          | false =>
            obtain ⟨⟨z0, z1, z2, z3, z4, z5, z6, z7, z8⟩, ⟨f0, f1, f2, f3, f4, f5, f6, f7, f8⟩⟩ := cells9 KZ.out
            have hv : bad = true := by rw [← HBAD.out]; simp [badP, *]
            subst hv
            go_wp2
            exact bodyPost_ret (results_ct rfl _ _ w.heap.size 24 _ (0, 0) _ rfl (put9 KZ.out) Tryd.underlying24 rfl (by kernel_rfl)) rfl ⟨rfl, below9 HB.out⟩
          | true =>
            obtain ⟨⟨_, _, _, _, u4, _, _, _, _⟩, _⟩ := cells9 KU.out
            go_wp2_with fail
            clear u4
            refine (C4 _).mono ?_
            rintro x w6 ⟨rfl, h⟩
            obtain ⟨ku, kz, hb⟩ := after9 KU.out KZ.out HB.out h
            clear h KU KZ HB
            have KZ := Aside0.mk kz
            have KU := Aside0.mk ku
            have HB := Aside0.mk hb
            clear kz ku hb
            cases b4 with
            | false =>
              obtain ⟨⟨z0, z1, z2, z3, z4, z5, z6, z7, z8⟩, ⟨f0, f1, f2, f3, f4, f5, f6, f7, f8⟩⟩ := cells9 KZ.out
              have hv : bad = true := by rw [← HBAD.out]; simp [badP, *]
              subst hv
              go_wp2
              exact bodyPost_ret (results_ct rfl _ _ w.heap.size 24 _ (0, 0) _ rfl (put9 KZ.out) Tryd.underlying24 rfl (by kernel_rfl)) rfl ⟨rfl, below9 HB.out⟩
            | true =>
              obtain ⟨⟨z0, z1, z2, z3, z4, z5, z6, z7, z8⟩, ⟨f0, f1, f2, f3, f4, f5, f6, f7, f8⟩⟩ := cells9 KZ.out
              obtain ⟨⟨u0, u1, u2, u3, u4, u5, u6, u7, u8⟩, _⟩ := cells9 KU.out
              have hv : bad = false := by rw [← HBAD.out]; simp [badP, *]
              subst hv
              go_wp2
              exact bodyPost_ret (results_ct rfl _ _ w.heap.size 24 _ (0, 0) _ rfl (put9 KZ.out) Tryd.underlying24 rfl (by kernel_rfl)) rfl ⟨rfl, below9 HB.out⟩
    | true =>
      obtain ⟨⟨u0, u1, _, _, _, u5, _, _, _⟩, _⟩ := cells9 KU.out
      go_wp2_with fail
      clear u5 u0 u1
      refine (CC _).mono ?_
      rintro x w7 ⟨rfl, h⟩
      obtain ⟨ku, kz, hb⟩ := after9 KU.out KZ.out HB.out h
      clear h KU KZ HB
      have KZ := Aside0.mk kz
      have KU := Aside0.mk ku
      have HB := Aside0.mk hb
      clear kz ku hb
      cases sc with
      | false =>
        obtain ⟨⟨z0, z1, z2, z3, z4, z5, z6, z7, z8⟩, ⟨f0, f1, f2, f3, f4, f5, f6, f7, f8⟩⟩ := cells9 KZ.out
        have hv : bad = true := by rw [← HBAD.out]; simp [badP, *]
        subst hv
        go_wp2
        exact bodyPost_ret (results_ct rfl _ _ w.heap.size 24 _ (0, 0) _ rfl (put9 KZ.out) Tryd.underlying24 rfl (by kernel_rfl)) rfl ⟨rfl, below9 HB.out⟩
      | true =>
        obtain ⟨⟨_, u1, _, _, _, _, _, _, _⟩, _⟩ := cells9 KU.out
        go_wp2_with fail
        clear u1
        refine (C1 _).mono ?_
        rintro x w8 ⟨rfl, h⟩
        obtain ⟨ku, kz, hb⟩ := after9 KU.out KZ.out HB.out h
        clear h KU KZ HB
        have KZ := Aside0.mk kz
        have KU := Aside0.mk ku
        have HB := Aside0.mk hb
        clear kz ku hb
        cases b1 with
        | false =>
          obtain ⟨⟨z0, z1, z2, z3, z4, z5, z6, z7, z8⟩, ⟨f0, f1, f2, f3, f4, f5, f6, f7, f8⟩⟩ := cells9 KZ.out
          have hv : bad = true := by rw [← HBAD.out]; simp [badP, *]
          subst hv
          go_wp2
          exact bodyPost_ret (results_ct rfl _ _ w.heap.size 24 _ (0, 0) _ rfl (put9 KZ.out) Tryd.underlying24 rfl (by kernel_rfl)) rfl ⟨rfl, below9 HB.out⟩
        | true =>
          obtain ⟨⟨_, _, u2, _, _, _, _, _, _⟩, _⟩ := cells9 KU.out
          go_wp2_with fail
          clear u2
          refine (C2 _).mono ?_
          rintro x w9 ⟨rfl, h⟩
          obtain ⟨ku, kz, hb⟩ := after9 KU.out KZ.out HB.out h
          clear h KU KZ HB
          have KZ := Aside0.mk kz
          have KU := Aside0.mk ku
          have HB := Aside0.mk hb
          clear kz ku hb
          cases b2 with
          | false =>
            obtain ⟨⟨z0, z1, z2, z3, z4, z5, z6, z7, z8⟩, ⟨f0, f1, f2, f3, f4, f5, f6, f7, f8⟩⟩ := cells9 KZ.out
            have hv : bad = true := by rw [← HBAD.out]; simp [badP, *]
            subst hv
            go_wp2
            exact bodyPost_ret (results_ct rfl _ _ w.heap.size 24 _ (0, 0) _ rfl (put9 KZ.out) Tryd.underlying24 rfl (by kernel_rfl)) rfl ⟨rfl, below9 HB.out⟩
          | true =>
            obtain ⟨⟨_, _, _, u3, _, _, _, _, _⟩, _⟩ := cells9 KU.out
            go_wp2_with fail
            clear u3
            refine (C3 _).mono ?_
            rintro x w10 ⟨rfl, h⟩
            obtain ⟨ku, kz, hb⟩ := after9 KU.out KZ.out HB.out h
            clear h KU KZ HB
            have KZ := Aside0.mk kz
            have KU := Aside0.mk ku
            have HB := Aside0.mk hb
            clear kz ku hb
            cases b3 with
            | false =>
              obtain ⟨⟨z0, z1, z2, z3, z4, z5, z6, z7, z8⟩, ⟨f0, f1, f2, f3, f4, f5, f6, f7, f8⟩⟩ := cells9 KZ.out
              have hv : bad = true := by rw [← HBAD.out]; simp [badP, *]
              subst hv
              go_wp2
              exact bodyPost_ret (results_ct rfl _ _ w.heap.size 24 _ (0, 0) _ rfl (put9 KZ.out) Tryd.underlying24 rfl (by kernel_rfl)) rfl ⟨rfl, below9 HB.out⟩
            | true =>
              obtain ⟨⟨_, _, _, _, u4, _, _, _, _⟩, _⟩ := cells9 KU.out
              go_wp2_with fail
              clear u4
              refine (C4 _).mono ?_
              rintro x w11 ⟨rfl, h⟩
              obtain ⟨ku, kz, hb⟩ := after9 KU.out KZ.out HB.out h
              clear h KU KZ HB
              have KZ := Aside0.mk kz
              have KU := Aside0.mk ku
              have HB := Aside0.mk hb
              clear kz ku hb
              cases b4 with
              | false =>
                obtain ⟨⟨z0, z1, z2, z3, z4, z5, z6, z7, z8⟩, ⟨f0, f1, f2, f3, f4, f5, f6, f7, f8⟩⟩ := cells9 KZ.out
                have hv : bad = true := by rw [← HBAD.out]; simp [badP, *]
                subst hv
                go_wp2
                exact bodyPost_ret (results_ct rfl _ _ w.heap.size 24 _ (0, 0) _ rfl (put9 KZ.out) Tryd.underlying24 rfl (by kernel_rfl)) rfl ⟨rfl, below9 HB.out⟩
              | true =>
                obtain ⟨⟨z0, z1, z2, z3, z4, z5, z6, z7, z8⟩, ⟨f0, f1, f2, f3, f4, f5, f6, f7, f8⟩⟩ := cells9 KZ.out
                obtain ⟨⟨u0, u1, u2, u3, u4, u5, u6, u7, u8⟩, _⟩ := cells9 KU.out
                have hv : bad = false := by rw [← HBAD.out]; simp [badP, *]
                subst hv
                go_wp2
                exact bodyPost_ret (results_ct rfl _ _ w.heap.size 24 _ (0, 0) _ rfl (put9 KZ.out) Tryd.underlying24 rfl (by kernel_rfl)) rfl ⟨rfl, below9 HB.out⟩
  · have heq : (e == 0) = false := beq_eq_false_iff_ne.2 he
    have hne : (e != 0) = true := bne_iff_ne.2 he
    obtain ⟨⟨z0, z1, z2, z3, z4, z5, z6, z7, z8⟩, ⟨f0, f1, f2, f3, f4, f5, f6, f7, f8⟩⟩ := cells9 KZ.out
    have hv : bad = true := by rw [← HBAD.out]; simp [badP, *]
    subst hv
    go_wp2
    exact bodyPost_ret (results_ct rfl _ _ w.heap.size 24 _ (0, 0) _ rfl (put9 KZ.out) Tryd.underlying24 rfl (by kernel_rfl)) rfl ⟨rfl, below9 HB.out⟩
set_option maxHeartbeats 4000000 in
set_option maxRecDepth 100000 in
theorem rparse_walk (a0 s1 s2 s3 s4 s5 : ByteArray) (s6 s7 s8 s9 sc b1 b2 b3 b4 : Bool) (e : Int) (w : World) 
    (CS : ∀ w, Calls Tryd.prog 20 #[.string a0] w fun x w' => x = .returned (.agg (uriC s1 s2 s3 s4 s5 s6 s7 s8 s9)) ∧ Below w.heap.size w w')
    (CE : ∀ w, Calls Tryd.prog 26 #[.string a0] w fun x w' => x = .returned (.int .i64 e) ∧ Below w.heap.size w w')
    (CC : ∀ w, Calls Tryd.prog 27 #[.string s1] w fun x w' => x = .returned (.bool sc) ∧ Below w.heap.size w w')
    (C1 : ∀ w, Calls Tryd.prog 28 #[.string s2, .string ⟨#[91, 93]⟩] w fun x w' => x = .returned (.bool b1) ∧ Below w.heap.size w w')
    (C2 : ∀ w, Calls Tryd.prog 28 #[.string s3, .string ⟨#[47]⟩] w fun x w' => x = .returned (.bool b2) ∧ Below w.heap.size w w')
    (C3 : ∀ w, Calls Tryd.prog 28 #[.string s4, .string ⟨#[47, 63]⟩] w fun x w' => x = .returned (.bool b3) ∧ Below w.heap.size w w')
    (C4 : ∀ w, Calls Tryd.prog 28 #[.string s5, .string ⟨#[47, 63]⟩] w fun x w' => x = .returned (.bool b4) ∧ Below w.heap.size w w') :
    Calls Tryd.prog 12 #[.string a0] w fun x w' => x = .returned (if badP e s6 sc b1 b2 b3 b4 = true then .tuple #[.agg zeroC, .int .i64 120] else .tuple #[.agg (uriC s1 s2 s3 s4 s5 s6 s7 s8 s9), .int .i64 0]) ∧ Below w.heap.size w w' := by
  have hu24 := Tryd.underlying24
  obtain ⟨bad, hbad⟩ : ∃ x, badP e s6 sc b1 b2 b3 b4 = x := ⟨_, rfl⟩
  rw [hbad]
  have HBAD := Lib.hid hbad
  clear hbad
  go_enter Tryd.func12, Tryd.ntmps12
  go_wp2_with fail
  refine (CS _).mono ?_
  rintro x w1 ⟨rfl, h1⟩
  clear CS
  have kz : w1.heap[w.heap.size]? = some (.cells zeroC 24 (0, 0)) := (h1.block _ (by rw [World.size_alloc]; omega)).trans (blk_new w _)
  have hb1 : Below w.heap.size w w1 := ((Below.refl _ w).alloc (Nat.le_refl _) _).trans (h1.mono (by rw [World.size_alloc]; omega))
  have hlz : w.heap.size < w1.heap.size := (Array.getElem?_eq_some_iff.1 kz).1
  clear h1
  have KZ := Aside0.mk kz
  have HB := Aside0.mk hb1
  clear kz hb1
  go_wp2_with fail
  refine (CE _).mono ?_
  rintro x w2 ⟨rfl, h2⟩
  clear CE
  have ku : w2.heap[w1.heap.size]? = some (.cells (uriC s1 s2 s3 s4 s5 s6 s7 s8 s9) 24 (0, 0)) := (h2.block _ (by rw [World.size_alloc]; omega)).trans (blk_new w1 _)
  have kz : w2.heap[w.heap.size]? = some (.cells zeroC 24 (0, 0)) := (h2.block _ (by rw [World.size_alloc]; omega)).trans ((((Below.refl w1.heap.size w1).alloc (Nat.le_refl _) _).block _ hlz).trans KZ.out)
  have hb2 : Below w.heap.size w w2 := (HB.out.alloc (by omega) _).trans (h2.mono (by rw [World.size_alloc]; omega))
  clear h2 KZ HB
  generalize hgu : w1.heap.size = gu at *
  have KZ := Aside0.mk kz
  have KU := Aside0.mk ku
  have HB := Aside0.mk hb2
  clear kz ku hb2
  by_cases he : e = 0
  · subst he
    cases s6 with
    | false =>
      obtain ⟨⟨u0, u1, _, _, _, u5, _, _, _⟩, _⟩ := cells9 KU.out
      go_wp2_with fail
      clear u5 u0 u1
      refine (C1 _).mono ?_
      rintro x w3 ⟨rfl, h⟩
      obtain ⟨ku, kz, hb⟩ := after9 KU.out KZ.out HB.out h
      clear h KU KZ HB
      have KZ := Aside0.mk kz
      have KU := Aside0.mk ku
      have HB := Aside0.mk hb
      clear kz ku hb
      cases b1 with
      | false =>
        obtain ⟨⟨z0, z1, z2, z3, z4, z5, z6, z7, z8⟩, ⟨f0, f1, f2, f3, f4, f5, f6, f7, f8⟩⟩ := cells9 KZ.out
        have hv : bad = true := by rw [← HBAD.out]; simp [badP, *]
        subst hv
        go_wp2
        exact bodyPost_ret (results_ct rfl _ _ w.heap.size 24 _ (0, 0) _ rfl (put9 KZ.out) Tryd.underlying24 rfl (by kernel_rfl)) rfl ⟨rfl, below9 HB.out⟩
      | true =>
        obtain ⟨⟨_, _, u2, _, _, _, _, _, _⟩, _⟩ := cells9 KU.out
        go_wp2_with fail
        clear u2
        refine (C2 _).mono ?_
        rintro x w4 ⟨rfl, h⟩
        obtain ⟨ku, kz, hb⟩ := after9 KU.out KZ.out HB.out h
        clear h KU KZ HB
        have KZ := Aside0.mk kz
        have KU := Aside0.mk ku
        have HB := Aside0.mk hb
        clear kz ku hb
        cases b2 with
        | false =>
          obtain ⟨⟨z0, z1, z2, z3, z4, z5, z6, z7, z8⟩, ⟨f0, f1, f2, f3, f4, f5, f6, f7, f8⟩⟩ := cells9 KZ.out
          have hv : bad = true := by rw [← HBAD.out]; simp [badP, *]
          subst hv
          go_wp2
          exact bodyPost_ret (results_ct rfl _ _ w.heap.size 24 _ (0, 0) _ rfl (put9 KZ.out) Tryd.underlying24 rfl (by kernel_rfl)) rfl ⟨rfl, below9 HB.out⟩
        | true =>
          obtain ⟨⟨_, _, _, u3, _, _, _, _, _⟩, _⟩ := cells9 KU.out
          go_wp2_with fail
          clear u3
          refine (C3 _).mono ?_
          rintro x w5 ⟨rfl, h⟩
          obtain ⟨ku, kz, hb⟩ := after9 KU.out KZ.out HB.out h
          clear h KU KZ HB
          have KZ := Aside0.mk kz
          have KU := Aside0.mk ku
          have HB := Aside0.mk hb
          clear kz ku hb
          cases b3 with
          | false =>
            obtain ⟨⟨z0, z1, z2, z3, z4, z5, z6, z7, z8⟩, ⟨f0, f1, f2, f3, f4, f5, f6, f7, f8⟩⟩ := cells9 KZ.out
            have hv : bad = true := by rw [← HBAD.out]; simp [badP, *]
            subst hv
            go_wp2
            exact bodyPost_ret (results_ct rfl _ _ w.heap.size 24 _ (0, 0) _ rfl (put9 KZ.out) Tryd.underlying24 rfl (by kernel_rfl)) rfl ⟨rfl, below9 HB.out⟩
          | true =>
            obtain ⟨⟨_, _, _, _, u4, _, _, _, _⟩, _⟩ := cells9 KU.out
            go_wp2_with fail
            clear u4
            refine (C4 _).mono ?_
            rintro x w6 ⟨rfl, h⟩
            obtain ⟨ku, kz, hb⟩ := after9 KU.out KZ.out HB.out h
            clear h KU KZ HB
            have KZ := Aside0.mk kz
            have KU := Aside0.mk ku
            have HB := Aside0.mk hb
            clear kz ku hb
            cases b4 with
            | false =>
              obtain ⟨⟨z0, z1, z2, z3, z4, z5, z6, z7, z8⟩, ⟨f0, f1, f2, f3, f4, f5, f6, f7, f8⟩⟩ := cells9 KZ.out
              have hv : bad = true := by rw [← HBAD.out]; simp [badP, *]
              subst hv
              go_wp2
              exact bodyPost_ret (results_ct rfl _ _ w.heap.size 24 _ (0, 0) _ rfl (put9 KZ.out) Tryd.underlying24 rfl (by kernel_rfl)) rfl ⟨rfl, below9 HB.out⟩
            | true =>
              obtain ⟨⟨z0, z1, z2, z3, z4, z5, z6, z7, z8⟩, ⟨f0, f1, f2, f3, f4, f5, f6, f7, f8⟩⟩ := cells9 KZ.out
              obtain ⟨⟨u0, u1, u2, u3, u4, u5, u6, u7, u8⟩, _⟩ := cells9 KU.out
              have hv : bad = false := by rw [← HBAD.out]; simp [badP, *]
              subst hv
              go_wp2
              exact bodyPost_ret (results_ct rfl _ _ w.heap.size 24 _ (0, 0) _ rfl (put9 KZ.out) Tryd.underlying24 rfl (by kernel_rfl)) rfl ⟨rfl, below9 HB.out⟩
    | true =>
      obtain ⟨⟨u0, u1, _, _, _, u5, _, _, _⟩, _⟩ := cells9 KU.out
      go_wp2_with fail
      clear u5 u0 u1
      refine (CC _).mono ?_
      rintro x w7 ⟨rfl, h⟩
      obtain ⟨ku, kz, hb⟩ := after9 KU.out KZ.out HB.out h
      clear h KU KZ HB
      have KZ := Aside0.mk kz
      have KU := Aside0.mk ku
      have HB := Aside0.mk hb
      clear kz ku hb
      cases sc with
      | false =>
        obtain ⟨⟨z0, z1, z2, z3, z4, z5, z6, z7, z8⟩, ⟨f0, f1, f2, f3, f4, f5, f6, f7, f8⟩⟩ := cells9 KZ.out
        have hv : bad = true := by rw [← HBAD.out]; simp [badP, *]
        subst hv
        go_wp2
        exact bodyPost_ret (results_ct rfl _ _ w.heap.size 24 _ (0, 0) _ rfl (put9 KZ.out) Tryd.underlying24 rfl (by kernel_rfl)) rfl ⟨rfl, below9 HB.out⟩
      | true =>
        obtain ⟨⟨_, u1, _, _, _, _, _, _, _⟩, _⟩ := cells9 KU.out
        go_wp2_with fail
        clear u1
        refine (C1 _).mono ?_
        rintro x w8 ⟨rfl, h⟩
        obtain ⟨ku, kz, hb⟩ := after9 KU.out KZ.out HB.out h
        clear h KU KZ HB
        have KZ := Aside0.mk kz
        have KU := Aside0.mk ku
        have HB := Aside0.mk hb
        clear kz ku hb
        cases b1 with
        | false =>
          obtain ⟨⟨z0, z1, z2, z3, z4, z5, z6, z7, z8⟩, ⟨f0, f1, f2, f3, f4, f5, f6, f7, f8⟩⟩ := cells9 KZ.out
          have hv : bad = true := by rw [← HBAD.out]; simp [badP, *]
          subst hv
          go_wp2
          exact bodyPost_ret (results_ct rfl _ _ w.heap.size 24 _ (0, 0) _ rfl (put9 KZ.out) Tryd.underlying24 rfl (by kernel_rfl)) rfl ⟨rfl, below9 HB.out⟩
        | true =>
          obtain ⟨⟨_, _, u2, _, _, _, _, _, _⟩, _⟩ := cells9 KU.out
          go_wp2_with fail
          clear u2
          refine (C2 _).mono ?_
          rintro x w9 ⟨rfl, h⟩
          obtain ⟨ku, kz, hb⟩ := after9 KU.out KZ.out HB.out h
          clear h KU KZ HB
          have KZ := Aside0.mk kz
          have KU := Aside0.mk ku
          have HB := Aside0.mk hb
          clear kz ku hb
          cases b2 with
          | false =>
            obtain ⟨⟨z0, z1, z2, z3, z4, z5, z6, z7, z8⟩, ⟨f0, f1, f2, f3, f4, f5, f6, f7, f8⟩⟩ := cells9 KZ.out
            have hv : bad = true := by rw [← HBAD.out]; simp [badP, *]
            subst hv
            go_wp2
            exact bodyPost_ret (results_ct rfl _ _ w.heap.size 24 _ (0, 0) _ rfl (put9 KZ.out) Tryd.underlying24 rfl (by kernel_rfl)) rfl ⟨rfl, below9 HB.out⟩
          | true =>
            obtain ⟨⟨_, _, _, u3, _, _, _, _, _⟩, _⟩ := cells9 KU.out
            go_wp2_with fail
            clear u3
            refine (C3 _).mono ?_
            rintro x w10 ⟨rfl, h⟩
            obtain ⟨ku, kz, hb⟩ := after9 KU.out KZ.out HB.out h
            clear h KU KZ HB
            have KZ := Aside0.mk kz
            have KU := Aside0.mk ku
            have HB := Aside0.mk hb
            clear kz ku hb
            cases b3 with
            | false =>
              obtain ⟨⟨z0, z1, z2, z3, z4, z5, z6, z7, z8⟩, ⟨f0, f1, f2, f3, f4, f5, f6, f7, f8⟩⟩ := cells9 KZ.out
              have hv : bad = true := by rw [← HBAD.out]; simp [badP, *]
              subst hv
              go_wp2
              exact bodyPost_ret (results_ct rfl _ _ w.heap.size 24 _ (0, 0) _ rfl (put9 KZ.out) Tryd.underlying24 rfl (by kernel_rfl)) rfl ⟨rfl, below9 HB.out⟩
            | true =>
              obtain ⟨⟨_, _, _, _, u4, _, _, _, _⟩, _⟩ := cells9 KU.out
              go_wp2_with fail
              clear u4
              refine (C4 _).mono ?_
              rintro x w11 ⟨rfl, h⟩
              obtain ⟨ku, kz, hb⟩ := after9 KU.out KZ.out HB.out h
              clear h KU KZ HB
              have KZ := Aside0.mk kz
              have KU := Aside0.mk ku
              have HB := Aside0.mk hb
              clear kz ku hb
              cases b4 with
              | false =>
                obtain ⟨⟨z0, z1, z2, z3, z4, z5, z6, z7, z8⟩, ⟨f0, f1, f2, f3, f4, f5, f6, f7, f8⟩⟩ := cells9 KZ.out
                have hv : bad = true := by rw [← HBAD.out]; simp [badP, *]
                subst hv
                go_wp2
                exact bodyPost_ret (results_ct rfl _ _ w.heap.size 24 _ (0, 0) _ rfl (put9 KZ.out) Tryd.underlying24 rfl (by kernel_rfl)) rfl ⟨rfl, below9 HB.out⟩
              | true =>
                obtain ⟨⟨z0, z1, z2, z3, z4, z5, z6, z7, z8⟩, ⟨f0, f1, f2, f3, f4, f5, f6, f7, f8⟩⟩ := cells9 KZ.out
                obtain ⟨⟨u0, u1, u2, u3, u4, u5, u6, u7, u8⟩, _⟩ := cells9 KU.out
                have hv : bad = false := by rw [← HBAD.out]; simp [badP, *]
                subst hv
                go_wp2
                exact bodyPost_ret (results_ct rfl _ _ w.heap.size 24 _ (0, 0) _ rfl (put9 KZ.out) Tryd.underlying24 rfl (by kernel_rfl)) rfl ⟨rfl, below9 HB.out⟩
  · have heq : (e == 0) = false := beq_eq_false_iff_ne.2 he
    have hne : (e != 0) = true := bne_iff_ne.2 he
    obtain ⟨⟨z0, z1, z2, z3, z4, z5, z6, z7, z8⟩, ⟨f0, f1, f2, f3, f4, f5, f6, f7, f8⟩⟩ := cells9 KZ.out
    have hv : bad = true := by rw [← HBAD.out]; simp [badP, *]
    subst hv
    go_wp2
    exact bodyPost_ret (results_ct rfl _ _ w.heap.size 24 _ (0, 0) _ rfl (put9 KZ.out) Tryd.underlying24 rfl (by kernel_rfl)) rfl ⟨rfl, below9 HB.out⟩
end Go.Proofs.YtldancekpigkaaaDoor.X
