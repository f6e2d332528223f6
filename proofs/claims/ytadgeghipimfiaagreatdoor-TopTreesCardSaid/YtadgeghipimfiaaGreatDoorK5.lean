/- Part of the proof of topTrees_card, merged out of smaller texts. Conditions: the listed variables of the library hold what the program's text lays. -/
import Derived.Test.YtadgeghipimfiaaGreatDoorK4
section
namespace Go.Proofs.YtadgeghipimfiaaGreatDoor.X
open Go.RowKit Go.Shelf Go.Proofs.YtadgeghipimfiaaGreatDoorW.PrintWords Go.Proofs.YtadgeghipimfiaaGreatDoor.F Go.Proofs.YtadgeghipimfiaaGreatDoor.Pg Go.Proofs.YtadgeghipimfiaaGreatDoor.Z
set_option linter.unusedVariables false
set_option linter.unusedSimpArgs false
def LeafPI : Prop := ∀ {sp nm d : Bs} {at_ : List At} {kids : List Tr} {A B : Option Addr} {c e : Nat} (w : World), Glob w → sp.length ≤ 1000000 → nm.length ≤ 1000000 → d.length ≤ 1000000 → at_.length ≤ 1000000 → kids.length ≤ 1000000 →
  Calls Tryz.prog 21 #[.agg #[.int .i64 3, .string (M sp), .string (M nm), .slice A at_.length c, .slice B kids.length e, .string (M d)]] w fun x w' => x = .returned (.bool (leafOk (.mk 3 sp nm at_ kids d))) ∧ Below w.heap.size w w'
mutual
def NoPi : Tr → Prop
 | .mk k _ _ _ kids _ => k ≠ 3 ∧ NoPis kids
def NoPis : List Tr → Prop
 | [] => True
 | t :: ts => NoPi t ∧ NoPis ts
end
def MayOk (t : Tr) : Prop := ∀ {w0 : World} {cs : List Value}, kTr.K w0 t cs → ∀ {w : World} (depth : Nat), depth ≤ 31 → Below w0.heap.size w0 w → Glob w →
 Calls Tryz.prog 12 #[.agg cs.toArray, .int .i64 (depth : Int)] w fun e w' => e = .returned (.bool (mayB t depth)) ∧ Below w.heap.size w w'
theorem mayB_eq (k : Int) (sp nm : Bs) (at_ : List At) (kids : List Tr) (d : Bs) (depth : Nat) : mayB (.mk k sp nm at_ kids d) depth =
  if k = 0 then decide (depth ≤ 30) && d.isEmpty && U.plainB nm && textOk sp && (sp != V.tNS) && (sp != V.tXML) && attrsOk at_ && mayBs kids 0 (depth + 1) else leafOk (.mk k sp nm at_ kids d) := by
 unfold mayB
 rfl
set_option maxRecDepth 100000 in
set_option maxHeartbeats 4000000 in
theorem may_leaf {k : Int} {sp nm d : Bs} {at_ : List At} {kids : List Tr} (hk : k ≠ 0) (hPI : LeafPI ∨ k ≠ 3) (hsm : TrSm 1000000 (.mk k sp nm at_ kids d)) : MayOk (.mk k sp nm at_ kids d) := by
 intro w0 cs hK w depth hd hw hG
 obtain ⟨A, c, B, e, hcs0, hca, hA, hke, hB⟩ := kTr_openK hK
 have hcs : cs = [.int .i64 k, .string (M sp), .string (M nm), .slice A at_.length c, .slice B kids.length e, .string (M d)] := hcs0
 clear hcs0
 subst hcs
 have hs : sp.length ≤ 1000000 ∧ nm.length ≤ 1000000 ∧ d.length ≤ 1000000 ∧ at_.length ≤ 1000000 ∧ (∀ a ∈ at_, a.1.length ≤ 1000000 ∧ a.2.1.length ≤ 1000000 ∧ a.2.2.length ≤ 1000000) ∧ kids.length ≤ 1000000 ∧ TrsSm 1000000 kids := by
  unfold TrSm at hsm
  exact hsm
 have hb0 : Below w.heap.size w (w.alloc (.cells #[.int .i64 k, .string (M sp), .string (M nm), .slice A at_.length c, .slice B kids.length e, .string (M d)] 25)) := (Below.refl _ _).alloc (Nat.le_refl _) _
 have hbx := Blk.new w #[.int .i64 k, .string (M sp), .string (M nm), .slice A at_.length c, .slice B kids.length e, .string (M d)] 25
 have x0 := hbx.cell 0
 have x1 := hbx.cell 1
 have x2 := hbx.cell 2
 have x3 := hbx.cell 3
 have x4 := hbx.cell 4
 have x5 := hbx.cell 5
 have HC : Hid (Calls Tryz.prog 21 #[.agg #[.int .i64 k, .string (M sp), .string (M nm), .slice A at_.length c, .slice B kids.length e, .string (M d)]] (w.alloc (.cells #[.int .i64 k, .string (M sp), .string (M nm), .slice A at_.length c, .slice B kids.length e, .string (M d)] 25)) fun x w' => x = .returned (.bool (leafOk (.mk k sp nm at_ kids d))) ∧ Below (w.alloc (.cells #[.int .i64 k, .string (M sp), .string (M nm), .slice A at_.length c, .slice B kids.length e, .string (M d)] 25)).heap.size (w.alloc (.cells #[.int .i64 k, .string (M sp), .string (M nm), .slice A at_.length c, .slice B kids.length e, .string (M d)] 25)) w') := by
  by_cases h3 : k = 3
  ·subst h3
   rcases hPI with h | h
   ·exact Lib.hid (h _ (hG.below hb0) hs.1 hs.2.1 hs.2.2.1 hs.2.2.2.1 hs.2.2.2.2.2.1)
   ·exact absurd rfl h
  ·exact Lib.hid (leaf_wcalls _ (hG.below hb0) hs.1 hs.2.1 hs.2.2.1 hs.2.2.2.1 hs.2.2.2.2.2.1 h3)
 have HB := Lib.hid hb0
 rw [mayB_eq, if_neg hk]
 clear hPI hsm hs hb0 hbx hA hB hK hw hG
 go_enter Tryz.func12, Tryz.ntmps12
 go_wp2_with fail
 refine HC.out.mono ?_
 rintro x w3 ⟨rfl, h3⟩
 have HF := Lib.hid (HB.out.trans (h3.mono HB.out.size))
 clear h3
 go_wp2
 go_ret
 exact ⟨rfl, HF.out⟩
theorem mayBs_step {l : List Tr} {k : Nat} (h : k < l.length) (last : Int) (depth : Nat) : mayBs (l.drop k) last depth = (!(decide (l[k].kind = 1) && decide (last = 1)) && mayB l[k] depth && mayBs (l.drop (k + 1)) l[k].kind depth) := by
 rw [List.drop_eq_getElem_cons h]
 conv => lhs; unfold mayBs
set_option maxRecDepth 100000 in
set_option maxHeartbeats 8000000 in
theorem may_elem {sp nm d : Bs} {at_ : List At} {kids : List Tr} (hsm : TrSm 1000000 (.mk 0 sp nm at_ kids d)) (hkid : ∀ t ∈ kids, MayOk t) : MayOk (.mk 0 sp nm at_ kids d) := by
 intro w0 cs hK w depth hd hw hG
 obtain ⟨A, c, B, e, hcs0, hca, hA, hke, hB⟩ := kTr_openK hK
 have hcs : cs = [.int .i64 0, .string (M sp), .string (M nm), .slice A at_.length c, .slice B kids.length e, .string (M d)] := hcs0
 have hca : at_.length ≤ c := hca
 have hA : kAttr.C w0 A at_.length at_ := hA
 have hB : kTr.C w0 B kids.length kids := hB
 have hke : kids.length ≤ e := hke
 clear hcs0
 subst hcs
 have hs : sp.length ≤ 1000000 ∧ nm.length ≤ 1000000 ∧ d.length ≤ 1000000 ∧ at_.length ≤ 1000000 ∧ (∀ a ∈ at_, a.1.length ≤ 1000000 ∧ a.2.1.length ≤ 1000000 ∧ a.2.2.length ≤ 1000000) ∧ kids.length ≤ 1000000 ∧ TrsSm 1000000 kids := by
  unfold TrSm at hsm
  exact hsm
 have hb0 : Below w.heap.size w (w.alloc (.cells #[.int .i64 0, .string (M sp), .string (M nm), .slice A at_.length c, .slice B kids.length e, .string (M d)] 25)) := (Below.refl _ _).alloc (Nat.le_refl _) _
 have hbx := Blk.new w #[.int .i64 0, .string (M sp), .string (M nm), .slice A at_.length c, .slice B kids.length e, .string (M d)] 25
 have x0 := hbx.cell 0
 have x1 := hbx.cell 1
 have x2 := hbx.cell 2
 have x3 := hbx.cell 3
 have x4 := hbx.cell 4
 have x5 := hbx.cell 5
 obtain ⟨bb, hbb⟩ : ∃ bb, bb = mayB (.mk 0 sp nm at_ kids d) depth := ⟨_, rfl⟩
 obtain ⟨pb, hpb⟩ : ∃ pb, pb = U.plainB nm := ⟨_, rfl⟩
 obtain ⟨tb, htb⟩ : ∃ tb, tb = [sp].all textOk := ⟨_, rfl⟩
 obtain ⟨b1, hb1⟩ : ∃ b1, (sp == ([104, 116, 116, 112, 58, 47, 47, 119, 119, 119, 46, 119, 51, 46, 111, 114, 103, 47, 50, 48, 48, 48, 47, 120, 109, 108, 110, 115, 47] : List UInt8)) = b1 := ⟨_, rfl⟩
 obtain ⟨b2, hb2⟩ : ∃ b2, (sp == ([104, 116, 116, 112, 58, 47, 47, 119, 119, 119, 46, 119, 51, 46, 111, 114, 103, 47, 88, 77, 76, 47, 49, 57, 57, 56, 47, 110, 97, 109, 101, 115, 112, 97, 99, 101] : List UInt8)) = b2 := ⟨_, rfl⟩
 obtain ⟨ab, hab⟩ : ∃ ab, ab = attrsOk at_ := ⟨_, rfl⟩
 have hbb2 : bb = (decide (depth ≤ 30) && d.isEmpty && pb && tb && !b1 && !b2 && ab && mayBs kids 0 (depth + 1)) := by
  rw [hbb, mayB_eq, if_pos rfl, hpb, htb, hab, ← hb1, ← hb2]
  simp only [List.all_cons, List.all_nil, Bool.and_true]
  rfl
 rw [← hbb]
 have HB := Lib.hid hb0
 have HX := Lib.hid hbx
 have HBB := Lib.hid hbb2
 have HG := Lib.hid hG
 have HW := Lib.hid hw
 have HA := Lib.hid hA
 have HKD := Lib.hid (And.intro hB (And.intro hkid hs))
 have HPB := Lib.hid (And.intro hpb (And.intro htb hab))
 clear hbb hbb2 hpb htb hab hG hw hA hB hkid hb0 hbx hK hsm
 by_cases h30 : depth ≤ 30
 ·have hd30 : ¬ (30 : Int) < (depth : Int) := by omega
  by_cases d0 : d = []
  ·subst d0
   go_enter Tryz.func12, Tryz.ntmps12
   go_wp2_with fail
   refine (plain_calls nm _ (HG.out.below HB.out) (Nat.lt_of_le_of_lt HKD.out.2.2.2.1 (by decide))).mono ?_
   rw [← HPB.out.1]
   rintro x W1 ⟨rfl, h1⟩
   have hb1' := HB.out.trans (h1.mono HB.out.size)
   have hx1 := HX.out.below h1 HX.out.lt
   have HB := Lib.hid hb1'
   have HX := Lib.hid hx1
   have x1 := hx1.cell 1
   have x3 := hx1.cell 3
   have x4 := hx1.cell 4
   clear h1 hb1' hx1
   cases pb with
   | false =>
     obtain rfl : bb = false := by rw [HBB.out]; simp
     go_wp2
     go_ret
     exact ⟨rfl, HB.out⟩
   | true =>
     have hba : Below W1.heap.size W1 (W1.alloc (.cells #[.string (M sp)] 9)) := (Below.refl _ _).alloc (Nat.le_refl _) _
     have hT := text_calls W1.heap.size 1 [sp] (W1.alloc (.cells #[.string (M sp)] 9)) (HG.out.below (HB.out.trans (hba.mono HB.out.size))) (row_new W1 [sp] (cs := #[.string (M sp)]) rfl) (by rw [World.size_alloc]; omega) (by show 1 ≤ 1000; omega) (fun s hs' => by rw [List.mem_singleton.1 hs']; have := HKD.out.2.2.1; omega)
     rw [← HPB.out.2.1] at hT
     have HT := Lib.hid hT
     have HA1 := Lib.hid hba
     clear hT hba
     go_wp2_with fail
     refine HT.out.mono ?_
     rintro x W2 ⟨rfl, h2⟩
     have hall := HA1.out.trans (h2.mono HA1.out.size)
     have hb2' := HB.out.trans (hall.mono HB.out.size)
     have hx2 := HX.out.below hall HX.out.lt
     have HB := Lib.hid hb2'
     have HX := Lib.hid hx2
     have x1 := hx2.cell 1
     have x3 := hx2.cell 3
     have x4 := hx2.cell 4
     clear h2 hall hb2' hx2 HT HA1
     cases tb with
     | false =>
       obtain rfl : bb = false := by rw [HBB.out]; simp
       go_wp2
       go_ret
       exact ⟨rfl, HB.out⟩
     | true =>
       cases b1 with
       | true =>
         obtain rfl : bb = false := by rw [HBB.out]; simp
         go_wp2
         go_ret
         exact ⟨rfl, HB.out⟩
       | false =>
         cases b2 with
         | true =>
           obtain rfl : bb = false := by rw [HBB.out]; simp
           go_wp2
           go_ret
           exact ⟨rfl, HB.out⟩
         | false =>
           have hAT := attrs_wcalls A c at_ W2 (HG.out.below HB.out) hca (Kd.C_below (d := kAttr) HA.out (HW.out.trans (HB.out.mono HW.out.size))) HKD.out.2.2.2.2.2.1 HKD.out.2.2.2.2.2.2.1
           rw [← HPB.out.2.2] at hAT
           have HAT := Lib.hid hAT
           clear hAT
           go_wp2_with fail
           refine HAT.out.mono ?_
           rintro x W3 ⟨rfl, h3⟩
           have hb3' := HB.out.trans (h3.mono HB.out.size)
           have hx3 := HX.out.below h3 HX.out.lt
           have HB := Lib.hid hb3'
           have x4 := hx3.cell 4
           clear h3 hb3' hx3 HAT HX
           cases ab with
           | false =>
             obtain rfl : bb = false := by rw [HBB.out]; simp
             go_wp2
             go_ret
             exact ⟨rfl, HB.out⟩
           | true =>
             have hbk : bb = mayBs kids 0 (depth + 1) := by rw [HBB.out, decide_eq_true h30]; simp
             have HI := Aside0.mk (And.intro HB.out (show bb = mayBs (kids.drop 0) 0 (depth + 1) from hbk))
             have hkl := HKD.out.2.2.2.2.2.2.2.1
             clear hbk hd30 hb1 hb2
             go_wp2_with fail
             go_loopw [52, 5] (fun v52 v5 wr => ∃ (i : Nat) (last : Int), v52 = .int .i64 i ∧ v5 = .int .i64 last ∧ i ≤ kids.length ∧ Aside0 (Below w.heap.size w wr ∧ bb = mayBs (kids.drop i) last (depth + 1))) (fun v52 _ _ => kids.length - (intOf v52).toNat)
             case atStart => exact ⟨0, 0, rfl, rfl, by omega, HI⟩
             case round =>
              obtain ⟨i, last, rfl, rfl, hi, HL⟩ := hrel
              by_cases hlt : i < kids.length
              ·obtain ⟨ad, A1, c1, A2, c2, rfl, hK, k0, k1, k2, k3, k4, k5⟩ := node_at HKD.out.1 (HW.out.trans (HL.out.1.mono HW.out.size)) i hlt
               have hba : Below wr.heap.size wr (wr.alloc (.cells (trC kids[i] A1 c1 A2 c2).toArray 25)) := (Below.refl _ _).alloc (Nat.le_refl _) _
               have hbk := Blk.new wr (trC kids[i] A1 c1 A2 c2).toArray 25
               have y0 := hbk.cell 0
               have y1 := hbk.cell 1
               have y2 := hbk.cell 2
               have y3 := hbk.cell 3
               have y4 := hbk.cell 4
               have y5 := hbk.cell 5
               have hw1 := HL.out.1.trans (hba.mono HL.out.1.size)
               obtain ⟨mb, hmb⟩ : ∃ mb, mb = mayB kids[i] (depth + 1) := ⟨_, rfl⟩
               have hC := HKD.out.2.1 kids[i] (List.getElem_mem hlt) hK (w := wr.alloc (.cells (trC kids[i] A1 c1 A2 c2).toArray 25)) (depth + 1) (by omega) (HW.out.trans (hw1.mono HW.out.size)) (HG.out.below hw1)
               rw [← hmb] at hC
               have HC := Lib.hid hC
               have hst := mayBs_step hlt last (depth + 1)
               rw [← hmb] at hst
               have HS := Lib.hid (And.intro hst (And.intro hw1 hbk))
               obtain ⟨kd, hkd⟩ : ∃ kd, kd = kids[i].kind := ⟨_, rfl⟩
               have hdd : ((depth + 1 : Nat) : Int) = (depth : Int) + 1 := by omega
               have HKK := Lib.hid hkd
               clear hba hbk hw1 hmb hC hst hK
               by_cases hj : kids[i].kind = 1 ∧ last = 1
               ·obtain ⟨j1, j2⟩ := hj
                subst j2
                have hbf : bb = false := by rw [HL.out.2, HS.out.1, decide_eq_true j1]; rfl
                subst hbf
                have HB9 := HS.out.2.1
                simp only [trC, j1] at HB9
                have HB9 := Lib.hid HB9
                go_wp2
                go_ret
                exact ⟨rfl, HB9.out⟩
               ·by_cases j1 : kids[i].kind = 1
                ·have j2 : ¬ last = 1 := fun h => hj ⟨j1, h⟩
                 have hC := HC.out
                 have hw9 := HS.out.2.1
                 have hbk9 := HS.out.2.2
                 have hst9 := HS.out.1
                 simp only [trC, j1] at hC hw9 hbk9
                 rw [hdd] at hC
                 have y0 := hbk9.cell 0
                 have HST := Lib.hid (show bb = (mb && mayBs (kids.drop (i + 1)) 1 (depth + 1)) by rw [HL.out.2, hst9, decide_eq_false j2, j1]; simp)
                 have HC := Lib.hid hC
                 have HW9 := Lib.hid (And.intro hw9 hbk9)
                 clear hC hw9 hbk9 hst9 hj hdd
                 go_wp2_with fail
                 refine HC.out.mono ?_
                 rintro x W5 ⟨rfl, h5⟩
                 have hw5 := HW9.out.1.trans (h5.mono HW9.out.1.size)
                 have hx5 := HW9.out.2.below h5 HW9.out.2.lt
                 have z0 : W5.cell? ⟨wr.heap.size, 0, none⟩ = some (.int .i64 1) := hx5.cell 0
                 have HB9 := Lib.hid hw5
                 clear h5 hw5 hx5 y0 y1 y2 y3 y4 y5 k0 k1 k2 k3 k4 k5 HC HW9
                 cases mb with
                 | false =>
                   have hbf : bb = false := by rw [HST.out]; rfl
                   subst hbf
                   go_wp2
                   go_ret
                   exact ⟨rfl, HB9.out⟩
                 | true =>
                   have H9 := Aside0.mk (And.intro HB9.out (show bb = mayBs (kids.drop (i + 1)) 1 (depth + 1) by rw [HST.out]; simp))
                   go_wp2
                   go_roundw
                   case rel => exact ⟨i + 1, 1, by go_num, rfl, by omega, H9⟩
                   case measure => simp [intOf]; omega
                ·have hC := HC.out
                 rw [hdd] at hC
                 have HST := Lib.hid (show bb = (mb && mayBs (kids.drop (i + 1)) kids[i].kind (depth + 1)) by rw [HL.out.2, HS.out.1, decide_eq_false j1]; simp)
                 have HC := Lib.hid hC
                 clear hC hj hdd
                 go_wp2_with fail
                 refine HC.out.mono ?_
                 rintro x W5 ⟨rfl, h5⟩
                 have hw5 := HS.out.2.1.trans (h5.mono HS.out.2.1.size)
                 have hx5 := HS.out.2.2.below h5 HS.out.2.2.lt
                 have z0 : W5.cell? ⟨wr.heap.size, 0, none⟩ = some (.int .i64 kids[i].kind) := hx5.cell 0
                 have HB9 := Lib.hid hw5
                 clear h5 hw5 hx5 y0 y1 y2 y3 y4 y5 k0 k1 k2 k3 k4 k5 HC
                 cases mb with
                 | false =>
                   have hbf : bb = false := by rw [HST.out]; rfl
                   subst hbf
                   go_wp2
                   go_ret
                   exact ⟨rfl, HB9.out⟩
                 | true =>
                   have H9 := Aside0.mk (And.intro HB9.out (show bb = mayBs (kids.drop (i + 1)) kids[i].kind (depth + 1) by rw [HST.out]; simp))
                   go_wp2
                   go_roundw
                   case rel => exact ⟨i + 1, _, by go_num, rfl, by omega, H9⟩
                   case measure => simp [intOf]; omega
              ·have hbf : bb = true := by
                rw [HL.out.2, List.drop_eq_nil_of_le (by omega)]
                unfold mayBs
                rfl
               subst hbf
               have HB9 := Lib.hid HL.out.1
               clear HL
               go_wp2
               go_ret
               exact ⟨rfl, HB9.out⟩
  ·have hdf : List.isEmpty d = false := List.isEmpty_eq_false_iff.2 d0
   obtain rfl : bb = false := by rw [HBB.out, hdf]; simp
   go_enter Tryz.func12, Tryz.ntmps12
   go_wp2
   go_ret
   exact ⟨rfl, HB.out⟩
 ·have hd30 : (30 : Int) < (depth : Int) := by omega
  obtain rfl : bb = false := by rw [HBB.out, decide_eq_false h30]; rfl
  go_enter Tryz.func12, Tryz.ntmps12
  go_wp2
  go_ret
  exact ⟨rfl, HB.out⟩
set_option maxRecDepth 100000 in
set_option maxHeartbeats 2000000 in
theorem node_text (hE : EscOk) {sp nm d : Bs} {va vk : Value} {base b : Nat} {acc up : Bs} {w : World} (h : Wr w base b acc) (hd : d.length ≤ 1000000) (hlen : acc.length + (esc false d).length ≤ 140737488355328) :
  Calls Tryz.prog 13 #[.pointer (some ⟨b, 0, none⟩), .agg #[.int .i64 1, .string (M sp), .string (M nm), va, vk, .string (M d)], .string (M up)] w fun e w' => e = .returned (.tuple #[]) ∧ Wr w' base b (acc ++ esc false d) ∧ Wk base b w w' := by
 obtain ⟨cs, hcs⟩ : ∃ cs : List Value, cs = [.int .i64 1, .string (M sp), .string (M nm), va, vk, .string (M d)] := ⟨_, rfl⟩
 have hb0 : Below w.heap.size w (w.alloc (.cells cs.toArray 25)) := (Below.refl _ _).alloc (Nat.le_refl _) _
 have hbx := Blk.new w cs.toArray 25
 have h1 := h.below hb0
 have hk1 := Wk.of hb0 h.le (b := b)
 have hne := h1.ne hbx (by decide)
 subst hcs
 have x0 := hbx.cell 0
 have x5 := hbx.cell 5
 have HE := Lib.hid hE
 have H1 := Lib.hid (And.intro h1 hk1)
 have HL := Lib.hid hlen
 clear hb0 hbx h1 hk1 hne h hE hlen
 go_enter Tryz.func13, Tryz.ntmps13
 go_wp2_with fail
 refine (HE.out d false _ hd).mono ?_
 rintro e w2 ⟨rfl, h2⟩
 have hw2 := H1.out.1.below h2
 have hk2 := H1.out.2.trans (Wk.of h2 H1.out.1.le (b := b))
 have HC := Lib.hid (put_row hw2 [esc false d] #[.string (M (esc false d))] rfl (by show 1 ≤ 100; omega) (by simpa using HL.out))
 have HK := Lib.hid hk2
 clear h2 hw2 hk2 x0 x5 H1 HE
 go_wp2_with fail
 refine HC.out.mono ?_
 rintro e w3 ⟨rfl, h3, h4⟩
 have HF := Lib.hid (And.intro (show Wr w3 base b (acc ++ esc false d) by simpa using h3) (HK.out.trans h4))
 clear h3 h4 HC HK
 go_wp2
 go_end0
 exact ⟨rfl, HF.out⟩
set_option maxRecDepth 100000 in
set_option maxHeartbeats 2000000 in
theorem node_note {sp nm d : Bs} {va vk : Value} {base b : Nat} {acc up : Bs} {w : World} (h : Wr w base b acc) (hlen : acc.length + (60 :: 33 :: 45 :: 45 :: (d ++ [45, 45, 62])).length ≤ 140737488355328) :
  Calls Tryz.prog 13 #[.pointer (some ⟨b, 0, none⟩), .agg #[.int .i64 2, .string (M sp), .string (M nm), va, vk, .string (M d)], .string (M up)] w fun e w' => e = .returned (.tuple #[]) ∧ Wr w' base b (acc ++ (60 :: 33 :: 45 :: 45 :: (d ++ [45, 45, 62]))) ∧ Wk base b w w' := by
 obtain ⟨cs, hcs⟩ : ∃ cs : List Value, cs = [.int .i64 2, .string (M sp), .string (M nm), va, vk, .string (M d)] := ⟨_, rfl⟩
 have hb0 : Below w.heap.size w (w.alloc (.cells cs.toArray 25)) := (Below.refl _ _).alloc (Nat.le_refl _) _
 have hbx := Blk.new w cs.toArray 25
 have h1 := h.below hb0
 have hk1 := Wk.of hb0 h.le (b := b)
 have hne := h1.ne hbx (by decide)
 subst hcs
 have x0 := hbx.cell 0
 have x2 := hbx.cell 2
 have x5 := hbx.cell 5
 have hC := put_row h1 [[60, 33, 45, 45], d, [45, 45, 62]] #[.string ⟨#[60, 33, 45, 45]⟩, .string (M d), .string ⟨#[45, 45, 62]⟩] rfl (by show 3 ≤ 100; omega) (by simpa using hlen)
 rw [World.size_alloc] at hC
 have HC := Lib.hid hC
 have HK := Lib.hid hk1
 clear hb0 hbx h1 hk1 hne h hlen hC
 go_enter Tryz.func13, Tryz.ntmps13
 go_wp2_with fail
 refine HC.out.mono ?_
 rintro e w3 ⟨rfl, h3, h4⟩
 have HF := Lib.hid (And.intro (show Wr w3 base b (acc ++ (60 :: 33 :: 45 :: 45 :: (d ++ [45, 45, 62]))) by simpa using h3) (HK.out.trans h4))
 clear h3 h4 HC HK
 go_wp2
 go_end0
 exact ⟨rfl, by simpa using HF.out.1, HF.out.2⟩
set_option maxRecDepth 100000 in
set_option maxHeartbeats 2000000 in
theorem node_pi {sp nm d : Bs} {va vk : Value} {base b : Nat} {acc up : Bs} {w : World} (h : Wr w base b acc) (hlen : acc.length + (60 :: 63 :: (nm ++ ((if d = [] then [] else 32 :: d) ++ [63, 62]))).length ≤ 140737488355328) :
  Calls Tryz.prog 13 #[.pointer (some ⟨b, 0, none⟩), .agg #[.int .i64 3, .string (M sp), .string (M nm), va, vk, .string (M d)], .string (M up)] w fun e w' => e = .returned (.tuple #[]) ∧ Wr w' base b (acc ++ (60 :: 63 :: (nm ++ ((if d = [] then [] else 32 :: d) ++ [63, 62])))) ∧ Wk base b w w' := by
 obtain ⟨cs, hcs⟩ : ∃ cs : List Value, cs = [.int .i64 3, .string (M sp), .string (M nm), va, vk, .string (M d)] := ⟨_, rfl⟩
 have hb0 : Below w.heap.size w (w.alloc (.cells cs.toArray 25)) := (Below.refl _ _).alloc (Nat.le_refl _) _
 have hbx := Blk.new w cs.toArray 25
 have h1 := h.below hb0
 have hk1 := Wk.of hb0 h.le (b := b)
 have hne := h1.ne hbx (by decide)
 subst hcs
 have x0 := hbx.cell 0
 have x2 := hbx.cell 2
 have x5 := hbx.cell 5
 obtain ⟨fin, hfin⟩ : ∃ fin, fin = 60 :: 63 :: (nm ++ ((if d = [] then [] else 32 :: d) ++ [63, 62])) := ⟨_, rfl⟩
 rw [← hfin] at hlen ⊢
 have hsz : ([[60, 63], nm] : List Bs).flatten.length + (if d = [] then [] else 32 :: d).length + 2 = fin.length := by
  rw [hfin]
  simp
  omega
 have hC := put_row h1 [[60, 63], nm] #[.string ⟨#[60, 63]⟩, .string (M nm)] rfl (by show 2 ≤ 100; omega) (by omega)
 rw [World.size_alloc] at hC
 have HC := Lib.hid hC
 have HK := Lib.hid (And.intro hk1 (And.intro hbx hne))
 have HL := Lib.hid (And.intro hlen (And.intro hsz hfin))
 clear hb0 hbx h1 hk1 hne h hlen hC hsz hfin
 by_cases hd : d = []
 ·subst hd
  go_enter Tryz.func13, Tryz.ntmps13
  go_wp2_with fail
  refine HC.out.mono ?_
  rintro e w3 ⟨rfl, h3, h4⟩
  have hb3 := h4.blk HK.out.2.1 HK.out.2.2 (by decide)
  have y5 := hb3.cell 5
  have HC2 := Lib.hid (put_row h3 [[63, 62]] #[.string ⟨#[63, 62]⟩] rfl (by decide) (by
   have h1 := HL.out.1
   have h2 := HL.out.2.1
   simp at h2
   simp
   omega))
  have HK2 := Lib.hid (HK.out.1.trans h4)
  clear h3 h4 hb3 HC HK x0 x2 x5
  go_wp2_with fail
  refine HC2.out.mono ?_
  rintro e w4 ⟨rfl, h3, h4⟩
  have HF := Lib.hid (And.intro (show Wr w4 base b (acc ++ fin) by rw [HL.out.2.2]; simpa using h3) (HK2.out.trans h4))
  clear h3 h4
  go_wp2
  go_end0
  exact ⟨rfl, HF.out⟩
 ·have hde : List.isEmpty d = false := List.isEmpty_eq_false_iff.2 hd
  have HD := Lib.hid hd
  clear hd
  go_enter Tryz.func13, Tryz.ntmps13
  go_wp2_with fail
  refine HC.out.mono ?_
  rintro e w3 ⟨rfl, h3, h4⟩
  have hb3 := h4.blk HK.out.2.1 HK.out.2.2 (by decide)
  have y5 := hb3.cell 5
  have HC2 := Lib.hid (put_row h3 [[32], d] #[.string ⟨#[32]⟩, .string (M d)] rfl (by show 2 ≤ 100; omega) (by
   have h1 := HL.out.1
   have h2 := HL.out.2.1
   rw [if_neg HD.out] at h2
   simp at h2
   simp
   omega))
  have HK2 := Lib.hid (HK.out.1.trans h4)
  clear h3 h4 hb3 HC HK x0 x2 x5
  go_wp2_with fail
  refine HC2.out.mono ?_
  rintro e w4 ⟨rfl, h3, h4⟩
  have HC3 := Lib.hid (put_row h3 [[63, 62]] #[.string ⟨#[63, 62]⟩] rfl (by decide) (by
   have h1 := HL.out.1
   have h2 := HL.out.2.1
   rw [if_neg HD.out] at h2
   simp at h2
   simp
   omega))
  have HK3 := Lib.hid (HK2.out.trans h4)
  clear h3 h4 HC2 HK2
  go_wp2_with fail
  refine HC3.out.mono ?_
  rintro e w5 ⟨rfl, h3, h4⟩
  have HF := Lib.hid (And.intro (show Wr w5 base b (acc ++ fin) by rw [HL.out.2.2, if_neg HD.out]; simpa using h3) (HK3.out.trans h4))
  clear h3 h4
  go_wp2
  go_end0
  exact ⟨rfl, HF.out⟩
set_option maxRecDepth 100000 in
set_option maxHeartbeats 2000000 in
theorem node_elem (hE : EscOk) {k : Int} {sp nm d : Bs} {at_ : List At} {kids : List Tr} (hk : k ≠ 1 ∧ k ≠ 2 ∧ k ≠ 3) (hsm : TrSm 99 (.mk k sp nm at_ kids d)) (hkid : ∀ t ∈ kids, NodeOk t) : NodeOk (.mk k sp nm at_ kids d) := by
 intro w0 cs hK base b acc up w hbase h hw hlen
 obtain ⟨A, c, B, e, hcs0, hca, hA, hke, hB⟩ := kTr_openK hK
 have hcs : cs = [.int .i64 k, .string (M sp), .string (M nm), .slice A at_.length c, .slice B kids.length e, .string (M d)] := hcs0
 clear hcs0
 have hb0 : Below w.heap.size w (w.alloc (.cells cs.toArray 25)) := (Below.refl _ _).alloc (Nat.le_refl _) _
 have hbx := Blk.new w cs.toArray 25
 have h1 := h.below hb0
 have hk1 := Wk.of hb0 h.le (b := b)
 have hne := h1.ne hbx (by decide)
 subst hcs
 have x0 := hbx.cell 0
 have x1 := hbx.cell 1
 have x2 := hbx.cell 2
 have x3 := hbx.cell 3
 have x4 := hbx.cell 4
 have x5 := hbx.cell 5
 have HC := Lib.hid (elem_wcalls hE hk hsm hkid hca hA hke hB (up := up) hbase h1 (hw.trans (hb0.mono hw.size)) hlen)
 have HK := Lib.hid hk1
 obtain ⟨fin, hfin⟩ : ∃ fin, fin = spell (.mk k sp nm at_ kids d) up := ⟨_, rfl⟩
 rw [← hfin] at HC ⊢
 have hk1' := hk.1
 have hk2' := hk.2.1
 have hk3' := hk.2.2
 clear hb0 hbx h1 hk1 hne h hlen hE hsm hkid hA hB hw hK hfin hk
 go_enter Tryz.func13, Tryz.ntmps13
 go_wp2_with fail
 refine HC.out.mono ?_
 rintro x w3 ⟨rfl, h3, h4⟩
 have HF := Lib.hid (And.intro h3 (HK.out.trans h4))
 clear h3 h4
 go_wp2
 go_end0
 exact ⟨rfl, HF.out⟩
theorem nodeok_text (hE : EscOk) {sp nm d : Bs} {at_ : List At} {kids : List Tr} (hd : d.length ≤ 1000000) : NodeOk (.mk 1 sp nm at_ kids d) := by
 intro w0 cs hK base b acc up w hbase h hw hlen
 obtain ⟨A, c, B, e, rfl, _⟩ := kTr_openK hK
 exact node_text hE h hd hlen
theorem nodeok_note {sp nm d : Bs} {at_ : List At} {kids : List Tr} : NodeOk (.mk 2 sp nm at_ kids d) := by
 intro w0 cs hK base b acc up w hbase h hw hlen
 obtain ⟨A, c, B, e, rfl, _⟩ := kTr_openK hK
 exact node_note h hlen
theorem nodeok_pi {sp nm d : Bs} {at_ : List At} {kids : List Tr} : NodeOk (.mk 3 sp nm at_ kids d) := by
 intro w0 cs hK base b acc up w hbase h hw hlen
 obtain ⟨A, c, B, e, rfl, _⟩ := kTr_openK hK
 exact node_pi h hlen
mutual
theorem node_all (hE : EscOk) : ∀ (t : Tr), TrSm 99 t → NodeOk t
 | .mk k sp nm at_ kids d, hsm => by
   have hs : sp.length ≤ 1000000 ∧ nm.length ≤ 1000000 ∧ d.length ≤ 1000000 ∧ at_.length ≤ 99 ∧ (∀ a ∈ at_, a.1.length ≤ 1000000 ∧ a.2.1.length ≤ 1000000 ∧ a.2.2.length ≤ 1000000) ∧ kids.length ≤ 1000000 ∧ TrsSm 99 kids := by
    have := hsm
    unfold TrSm at this
    exact this
   by_cases h1 : k = 1
   ·subst h1
    exact nodeok_text hE hs.2.2.1
   ·by_cases h2 : k = 2
    ·subst h2
     exact nodeok_note
    ·by_cases h3 : k = 3
     ·subst h3
      exact nodeok_pi
     ·exact node_elem hE ⟨h1, h2, h3⟩ hsm (nodes_all hE kids hs.2.2.2.2.2.2)
theorem nodes_all (hE : EscOk) : ∀ (l : List Tr), TrsSm 99 l → ∀ t ∈ l, NodeOk t
 | [], _, _, h => by cases h
 | t :: l, hs, x, hx => by
   have hs : TrSm 99 t ∧ TrsSm 99 l := by
    unfold TrsSm at hs
    exact hs
   rcases List.mem_cons.1 hx with hx | hx
   ·rw [hx]
    exact node_all hE t hs.1
   ·exact nodes_all hE l hs.2 x hx
end
theorem TrSm.open {m : Nat} {k : Int} {sp nm d : Bs} {at_ : List At} {kids : List Tr} (h : TrSm m (.mk k sp nm at_ kids d)) :
  sp.length ≤ 1000000 ∧ nm.length ≤ 1000000 ∧ d.length ≤ 1000000 ∧ at_.length ≤ m ∧ (∀ a ∈ at_, a.1.length ≤ 1000000 ∧ a.2.1.length ≤ 1000000 ∧ a.2.2.length ≤ 1000000) ∧ kids.length ≤ 1000000 ∧ TrsSm m kids := by
 unfold TrSm at h
 exact h
mutual
theorem may_all : ∀ (t : Tr), TrSm 1000000 t → (LeafPI ∨ NoPi t) → MayOk t
 | .mk k sp nm at_ kids d, hsm, hPI => by
   by_cases h0 : k = 0
   ·subst h0
    exact may_elem hsm (mays_all kids hsm.open.2.2.2.2.2.2 (hPI.imp id fun h => by unfold NoPi at h; exact h.2))
   ·exact may_leaf h0 (hPI.imp id fun h => by unfold NoPi at h; exact h.1) hsm
theorem mays_all : ∀ (l : List Tr), TrsSm 1000000 l → (LeafPI ∨ NoPis l) → ∀ t ∈ l, MayOk t
 | [], _, _, _, h => by cases h
 | t :: l, hs, hPI, x, hx => by
   have hs : TrSm 1000000 t ∧ TrsSm 1000000 l := by
    unfold TrsSm at hs
    exact hs
   rcases List.mem_cons.1 hx with hx | hx
   ·rw [hx]
    exact may_all t hs.1 (hPI.imp id fun h => by unfold NoPis at h; exact h.1)
   ·exact mays_all l hs.2 (hPI.imp id fun h => by unfold NoPis at h; exact h.2) x hx
end
mutual
theorem few_of_may : ∀ (t : Tr) (depth : Nat), TrSm 1000000 t → mayB t depth = true → TrSm 99 t
 | .mk k sp nm at_ kids d, depth, hsm, h => by
   have hs := hsm.open
   have key : at_.length ≤ 99 ∧ TrsSm 99 kids := by
    by_cases h0 : k = 0
    ·have hm := mayB_el h0 h
     have h7 := hm.2.2.2.2.2.2.1
     unfold attrsOk at h7
     simp only [Bool.and_eq_true, decide_eq_true_eq] at h7
     exact ⟨by omega, fews_of_may kids 0 (depth + 1) hs.2.2.2.2.2.2 hm.2.2.2.2.2.2.2⟩
    ·have hl := mayB_leaf (t := .mk k sp nm at_ kids d) h0 h
     have h1 : at_ = [] := hl.2.1
     have h2 : kids = [] := hl.2.2.1
     subst h1
     subst h2
     exact ⟨by simp, by unfold TrsSm; trivial⟩
   unfold TrSm
   exact ⟨hs.1, hs.2.1, hs.2.2.1, key.1, hs.2.2.2.2.1, hs.2.2.2.2.2.1, key.2⟩
theorem fews_of_may : ∀ (l : List Tr) (last : Int) (depth : Nat), TrsSm 1000000 l → mayBs l last depth = true → TrsSm 99 l
 | [], _, _, _, _ => by unfold TrsSm; trivial
 | t :: l, last, depth, hs, h => by
   have hs : TrSm 1000000 t ∧ TrsSm 1000000 l := by
    unfold TrsSm at hs
    exact hs
   unfold mayBs at h
   simp only [Bool.and_eq_true] at h
   unfold TrsSm
   exact ⟨few_of_may t depth hs.1 h.1.2, fews_of_may l t.kind depth hs.2 h.2⟩
end
def printV (t : Tr) : Bs × Int := if mayDoc t = true then (if (spell t []).length ≤ 100000 then (spell t [], 0) else ([], 2)) else ([], 30)
theorem spell_ne (t : Tr) (up : Bs) (h : t.kind = 0) : spell t up ≠ [] := by
 obtain ⟨k, sp, nm, at_, kids, d⟩ := t
 have h : k = 0 := h
 subst h
 unfold spell
 simp
set_option maxRecDepth 100000 in
set_option maxHeartbeats 4000000 in
theorem sprint_calls (hE : EscOk) {t : Tr} {cs : List Value} {w : World} (hG : Glob w) (hK : kTr.K w t cs) (hsm : TrSm 1000000 t) (hPI : LeafPI ∨ NoPi t) (hlen : mayDoc t = true → (spell t []).length ≤ 140737488355328) :
  Calls Tryz.prog 6 #[.agg cs.toArray] w fun e w' => e = .returned (.tuple #[.string (M (printV t).1), .int .i64 (printV t).2]) ∧ Below w.heap.size w w' := by
 obtain ⟨A, c, B, e, hcs0, hca, hA, hke, hB⟩ := kTr_openK hK
 obtain ⟨k, sp, nm, at_, kids, d⟩ := t
 have hcs : cs = [.int .i64 k, .string (M sp), .string (M nm), .slice A at_.length c, .slice B kids.length e, .string (M d)] := hcs0
 clear hcs0 hca hke hA hB
 subst hcs
 have hb0 : Below w.heap.size w (w.alloc (.cells #[.int .i64 k, .string (M sp), .string (M nm), .slice A at_.length c, .slice B kids.length e, .string (M d)] 25)) := (Below.refl _ _).alloc (Nat.le_refl _) _
 have hbx := Blk.new w #[.int .i64 k, .string (M sp), .string (M nm), .slice A at_.length c, .slice B kids.length e, .string (M d)] 25
 have x0 := hbx.cell 0
 have HM := Lib.hid (may_all (.mk k sp nm at_ kids d) hsm hPI hK 1 (by decide) hb0 (hG.below hb0))
 have HB := Lib.hid (And.intro hb0 hbx)
 have HD := Lib.hid (And.intro hE (And.intro hsm (And.intro hK hlen)))
 obtain ⟨pv, hpv⟩ : ∃ pv, pv = printV (.mk k sp nm at_ kids d) := ⟨_, rfl⟩
 rw [← hpv]
 have HPV := Lib.hid hpv
 clear hG hK hsm hPI hlen hE hb0 hpv
 by_cases h0 : k = 0
 ·subst h0
  have x1 := hbx.cell 1
  have x2 := hbx.cell 2
  have x3 := hbx.cell 3
  have x4 := hbx.cell 4
  have x5 := hbx.cell 5
  obtain ⟨mb, hmb⟩ : ∃ mb, mb = mayB (.mk 0 sp nm at_ kids d) 1 := ⟨_, rfl⟩
  rw [← hmb] at HM
  have hmd : mayDoc (.mk 0 sp nm at_ kids d) = mb := by
   unfold mayDoc
   rw [hmb]
   rfl
  have HMD := Lib.hid (And.intro hmd hmb)
  clear hmb hmd hbx
  go_enter Tryz.func6, Tryz.ntmps6
  go_wp2_with fail
  refine HM.out.mono ?_
  rintro x W1 ⟨rfl, h1⟩
  have hb1 := HB.out.1.trans (h1.mono HB.out.1.size)
  have hx1 := HB.out.2.below h1 HB.out.2.lt
  have HB1 := Lib.hid (And.intro hb1 hx1)
  cases mb with
  | false =>
    obtain rfl : pv = ([], 30) := by
     rw [HPV.out]
     unfold printV
     rw [HMD.out.1]
     rfl
    clear h1 hb1 hx1 x0 x1 x2 x3 x4 x5
    go_wp2
    go_ret2
    exact ⟨rfl, HB1.out.1⟩
  | true =>
    have hsm9 := few_of_may _ 1 HD.out.2.1 HMD.out.2.symm
    have hba : Below W1.heap.size W1 (W1.alloc (.cells #[.pointer none, .slice none 0 0] 46)) := (Below.refl _ _).alloc (Nat.le_refl _) _
    have hwr := Wr.new W1
    have hx2 := hx1.below hba hx1.lt
    have y0 := hx2.cell 0
    have y1 := hx2.cell 1
    have y2 := hx2.cell 2
    have y3 := hx2.cell 3
    have y4 := hx2.cell 4
    have y5 := hx2.cell 5
    have HN := Lib.hid (node_all HD.out.1 _ hsm9 HD.out.2.2.1 (up := []) hb1.size hwr (hb1.trans (hba.mono hb1.size)) (by simpa using HD.out.2.2.2 HMD.out.1))
    have HB2 := Lib.hid (hb1.trans (hba.mono hb1.size))
    have hu114 := Tryz.underlying46
    clear h1 hb1 hx1 hba hwr hx2 hsm9 x0 x1 x2 x3 x4 x5
    go_wp2_with fail
    refine HN.out.mono ?_
    rintro x W3 ⟨rfl, h3, h4⟩
    rw [List.nil_append] at h3
    have H3 := Lib.hid (And.intro h3 (HB2.out.trans (h4.below.mono (by have := HB1.out.1.size; omega))))
    have hln := wlen_calls h3
    obtain ⟨pt, hpt⟩ : ∃ pt, pt = spell (.mk 0 sp nm at_ kids d) [] := ⟨_, rfl⟩
    rw [← hpt] at hln
    have HLN := Lib.hid hln
    have HPT := Lib.hid hpt
    clear h3 h4 hln hpt y0 y1 y2 y3 y4 y5
    go_wp2_with fail
    refine HLN.out.mono ?_
    rintro x W4 ⟨rfl, rfl⟩
    by_cases hl : pt.length ≤ 100000
    ·have hl2 : ¬ (100000 : Int) < (pt.length : Int) := by omega
     obtain rfl : pv = (pt, 0) := by
      rw [HPV.out]
      unfold printV
      rw [HMD.out.1, ← HPT.out, if_pos rfl, if_pos hl]
     have hst := wstring_calls H3.out.1 (spell_ne (.mk 0 sp nm at_ kids d) [] rfl)
     rw [← HPT.out] at hst
     have HST := Lib.hid hst
     clear hst HLN
     go_wp2_with fail
     refine HST.out.mono ?_
     rintro x W5 ⟨rfl, h5⟩
     have HF := Lib.hid (H3.out.2.trans (h5.mono (by have := HB1.out.1.size; omega)))
     clear h5
     go_wp2
     go_ret2
     exact ⟨rfl, HF.out⟩
    ·have hl2 : (100000 : Int) < (pt.length : Int) := by omega
     obtain rfl : pv = ([], 2) := by
      rw [HPV.out]
      unfold printV
      rw [HMD.out.1, ← HPT.out, if_pos rfl, if_neg hl]
     clear HLN
     go_wp2
     go_ret2
     exact ⟨rfl, H3.out.2⟩
 ·obtain rfl : pv = ([], 30) := by
   rw [HPV.out]
   unfold printV mayDoc
   rw [show decide ((Tr.mk k sp nm at_ kids d).kind = 0) = false from decide_eq_false h0]
   rfl
  clear hbx
  go_enter Tryz.func6, Tryz.ntmps6
  go_wp2
  go_ret2
  exact ⟨rfl, HB.out.1⟩
set_option maxRecDepth 100000 in
set_option maxHeartbeats 1000000 in
theorem sum_none (w : World) : Calls Tryz.prog 11 #[.string ⟨#[]⟩] w fun e w' => e = .returned (.int .i64 1) ∧ Below w.heap.size w w' := by
 have kc := Lib.run_convert_string_bytes (P := Tryz.prog) w 9 42 5 ⟨#[]⟩ Tryz.underlying9 Tryz.underlying42 Tryz.underlying5
 have hb := bw_below w ⟨#[]⟩
 go_enter Tryz.func11, Tryz.ntmps11
 go_wp2_with fail
 refine wp_loop_rounds 1 ?_
 rw [rounds_succ]
 go_wp2
 go_ret
 exact ⟨congrArg (fun z => Ending.returned (Value.int .i64 z)) (by kernel_rfl : wrap64 (bits BinOp.or IntKind.u32 0 1) = 1), hb⟩
theorem alive_small : TrSm 1000000 aliveT := by
 show TrSm 1000000 (.mk 0 [] [97] [([], [98], [49])] [.mk 1 [] [] [] [] [120]] [])
 unfold TrSm TrsSm TrsSm TrSm TrsSm
 simp
theorem alive_nopi : NoPi aliveT := by
 show NoPi (.mk 0 [] [97] [([], [98], [49])] [.mk 1 [] [] [] [] [120]] [])
 unfold NoPi NoPis NoPis NoPi NoPis
 simp
theorem alive_gxs : Gxs ⟨[], none⟩ (toks aliveT []) ⟨[], some aliveT⟩ := by
 have := gxs_doc alive_may ⟨[], some aliveT⟩ [] (.nil _)
 rw [List.append_nil] at this
 exact this
theorem alive_check : checkR (M aliveL) = 0 := by
 rw [show checkR (M aliveL) = U.checkL aliveL.length aliveL from U.checkR_eq aliveL]
 have : textOk aliveL = true := textOk_ascii _ (by decide)
 unfold textOk at this
 exact beq_iff_eq.1 this
theorem alive_print : printV aliveT = ([60, 97, 32, 98, 61, 34, 49, 34, 62, 120, 60, 47, 97, 62], 0) := by
 unfold printV
 rw [alive_may, if_pos rfl, alive_spell]
 rfl
set_option maxRecDepth 100000 in
set_option maxHeartbeats 4000000 in
theorem alive_calls (w : World) (hG : Glob w) : Calls Tryz.prog 4 #[] w fun e w' => e = .returned (.bool true) ∧ Below w.heap.size w w' := by
 have HG := Lib.hid hG
 have HP := Lib.hid (gparse_calls aliveL (toks aliveT []) aliveT w hG (by decide) alive_check (by decide) alive_nxs (.inr (by decide)) (by decide) alive_gxs)
 clear hG
 go_enter Tryz.func4, Tryz.ntmps4
 go_wp2_with fail
 refine HP.out.mono ?_
 rintro e w1 ⟨cs, rfl, hM, h1⟩
 obtain ⟨va, vk, rfl, ha, hk⟩ := kTr_openM hM
 obtain ⟨A1, c1, rfl⟩ := Kd.R_slice ha
 obtain ⟨A2, c2, rfl⟩ := Kd.R_slice hk
 have hK := kTr.K_of_M hM
 have hb2 : Below w1.heap.size w1 (w1.alloc (.cells (trC aliveT A1 c1 A2 c2).toArray 25)) := (Below.refl _ _).alloc (Nat.le_refl _) _
 have hK2 := kTr.K_below hb2 hK
 have hbx := Blk.new w1 (trC aliveT A1 c1 A2 c2).toArray 25
 have x0 := hbx.cell 0
 have x1 := hbx.cell 1
 have x2 := hbx.cell 2
 have x3 := hbx.cell 3
 have x4 := hbx.cell 4
 have x5 := hbx.cell 5
 have hb3 := h1.trans (hb2.mono h1.size)
 have hS := sprint_calls escape_ok (HG.out.below hb3) hK2 alive_small (.inr alive_nopi) (fun _ => by rw [alive_spell]; decide)
 rw [alive_print] at hS
 have HS := Lib.hid hS
 have HB := Lib.hid hb3
 clear hM ha hk hK hb2 hK2 hbx hb3 h1 hS HP
 go_wp2_with fail
 refine HS.out.mono ?_
 rintro e w3 ⟨rfl, h3⟩
 have HB3 := Lib.hid (HB.out.trans (h3.mono HB.out.size))
 clear h3 x0 x1 x2 x3 x4 x5 HS
 go_wp2_with fail
 refine (sum_none w3).mono ?_
 rintro e w4 ⟨rfl, h4⟩
 have HB4 := Lib.hid (HB3.out.trans (h4.mono HB3.out.size))
 clear h4
 go_wp2
 go_ret
 exact ⟨rfl, HB4.out⟩
end Go.Proofs.YtadgeghipimfiaaGreatDoor.X
end
section
namespace Go.Proofs.YtadgeghipimfiaaGreatDoor.Z
open Go.Proofs.YtadgeghipimfiaaGreatDoor.U Go.Proofs.YtadgeghipimfiaaGreatDoor.X Go.Lib
set_option linter.unusedVariables false
set_option linter.unusedSimpArgs false
def Gst (g : Gr) (ts : List Tok) : Prop := ∃ pre tok rest g', ts = pre ++ tok :: rest ∧ Gxs g pre g' ∧ g'.stack.length = 30 ∧ g'.root = none ∧ tok.kind = 0
theorem Gst.cons {g h : Gr} {t : Tok} {ts : List Tok} (hx : Gx g t h) (hs : Gst h ts) : Gst g (t :: ts) := by
 obtain ⟨pre, tok, rest, g', rfl, hp, h1, h2, h3⟩ := hs
 exact ⟨t :: pre, tok, rest, g', rfl, .cons g h g' t pre hx hp, h1, h2, h3⟩
theorem gxs_trans {g h : Gr} {pre : List Tok} (hx : Gxs g pre h) : ∀ {k : Gr} {ts : List Tok}, Gxs h ts k → Gxs g (pre ++ ts) k := by
 induction hx with
 | nil g => intro k ts hs; exact hs
 | cons g m k' t l h1 _ ih => intro k ts hs; exact .cons g m k t (l ++ ts) h1 (ih hs)
theorem Gst.after {g h : Gr} {pre ts : List Tok} (hx : Gxs g pre h) (hs : Gst h ts) : Gst g (pre ++ ts) := by
 obtain ⟨pre2, tok, rest, g', rfl, hp, h1, h2, h3⟩ := hs
 exact ⟨pre ++ pre2, tok, rest, g', by rw [List.append_assoc], gxs_trans hx hp, h1, h2, h3⟩
theorem toks_el (sp nm up d : Bs) (at_ : List At) (kids : List Tr) : toks (.mk 0 sp nm at_ kids d) up = if kids.isEmpty then [⟨0, nm, pairsEl sp up at_, true, []⟩] else ⟨0, nm, pairsEl sp up at_, false, []⟩ :: (tokss kids sp ++ [⟨1, nm, [], false, []⟩]) := by
 conv => lhs; unfold toks
 rw [if_neg (by decide), if_neg (by decide), if_neg (by decide)]
theorem mayB_el_mk {sp nm : Bs} {at_ : List At} {kids : List Tr} {d : Bs} {depth depth' : Nat} (h1 : depth ≤ 30) (h : mayB (.mk 0 sp nm at_ kids d) depth' = true) (hk : mayBs kids 0 (depth + 1) = true) : mayB (.mk 0 sp nm at_ kids d) depth = true := by
 obtain ⟨_, rfl, h3, h4, h5, h6, h7, _⟩ := mayB_el rfl h
 unfold mayB
 simp [h1, h3, h4, h5, h6, h7, hk]
mutual
theorem stuck : ∀ (t : Tr) (up : Bs) (depth : Nat), mayB t depth = true → mayB t (depth + 1) = false → ∀ (g : Gr) (ts : List Tok), g.stack.length = depth → g.root = none → home g.scope = X.M up → Gst g (toks t up ++ ts)
 | .mk k sp nm at_ kids d, up, depth, h, h', g, ts, hd, hr, hup => by
   by_cases hk : k = 0
   ·subst hk
    have hel := mayB_el rfl h
    rw [toks_el]
    by_cases h30 : depth = 30
    ·split
     ·exact ⟨[], _, ts, g, rfl, .nil g, by omega, hr, rfl⟩
     ·exact ⟨[], _, _, g, rfl, .nil g, by omega, hr, rfl⟩
    ·have hd2 : depth + 1 ≤ 30 := by have := hel.1; omega
     have hks : mayBs kids 0 (depth + 1 + 1) = false := by
      rw [← Bool.not_eq_true]
      intro hh
      rw [mayB_el_mk hd2 h hh] at h'
      cases h'
     have h0 : mayB (.mk 0 sp nm at_ [] d) (depth + 1) = true := by
      obtain ⟨_, rfl, h3, h4, h5, h6, h7, _⟩ := hel
      unfold mayB mayBs
      simp [hd2, h3, h4, h5, h6, h7]
     cases hkd : kids with
     | nil =>
       rw [hkd] at hks
       unfold mayBs at hks
       cases hks
     | cons t1 ts1 =>
       obtain ⟨sc, hsc, hb⟩ := begins_el (k := 0) false h0 (by omega) hup
       have h1 := Gx.start g nm _ [] _ hr hb
       rw [← hkd]
       rw [if_neg (by rw [hkd]; simp), List.cons_append, List.append_assoc]
       refine Gst.cons h1 ?_
       obtain ⟨gs, gr⟩ := g
       have hr : gr = none := hr
       subst hr
       exact stucks kids sp 0 (depth + 1) hel.2.2.2.2.2.2.2 hks ⟨nm, sp, nm, at_, [], sc⟩ gs _ (by show gs.length + 1 = depth + 1; have : gs.length = depth := hd; omega) hsc (fun x hx => by cases hx)
   ·exfalso
    unfold mayB at h h'
    rw [if_neg hk] at h h'
    rw [h] at h'
    cases h'
theorem stucks : ∀ (l : List Tr) (sp : Bs) (last : Int) (depth : Nat), mayBs l last depth = true → mayBs l last (depth + 1) = false → ∀ (f : Fr) (fs : List Fr) (ts : List Tok), fs.length + 1 = depth → home f.scope = X.M sp → (∀ x, f.kids.getLast? = some x → x.kind = last) → Gst ⟨f :: fs, none⟩ (tokss l sp ++ ts)
 | [], sp, last, depth, h, h', f, fs, ts, hd, hsc, hlast => by
   unfold mayBs at h'
   cases h'
 | t :: l, sp, last, depth, h, h', f, fs, ts, hd, hsc, hlast => by
   unfold mayBs at h
   unfold mayBs at h'
   simp only [Bool.and_eq_true] at h
   unfold tokss
   rw [List.append_assoc]
   by_cases ht : mayB t (depth + 1) = true
   ·have hl : mayBs l t.kind (depth + 1) = false := by
     rw [← Bool.not_eq_true]
     intro hh
     rw [h.1.1, ht, hh] at h'
     cases h'
    have hx := gxs_toks t sp (depth + 1) ht ⟨f :: fs, none⟩ (Gr.put ⟨f :: fs, none⟩ t) [] (by show (f :: fs).length + 1 = depth + 1; rw [List.length_cons]; omega) rfl hsc (by
     show noJoin f.kids t
     intro hk x hx hxk
     have := h.1.1
     rw [← hlast x hx] at this
     simp [hk, hxk] at this) (fun _ => by simp) (.nil _)
    rw [List.append_nil] at hx
    refine Gst.after hx ?_
    exact stucks l sp t.kind depth h.2 hl { f with kids := f.kids ++ [t] } fs ts hd hsc (fun x hx => by
     have hx : (f.kids ++ [t]).getLast? = some x := hx
     rw [List.getLast?_append] at hx
     simp at hx
     rw [hx])
   ·exact stuck t sp depth h.1.2 (by rw [← Bool.not_eq_true]; exact ht) ⟨f :: fs, none⟩ _ (by show (f :: fs).length = depth; rw [List.length_cons]; omega) rfl hsc
end
def pA : Bs := [60, 63, 120, 109, 108, 32, 118, 101, 114, 115, 105, 111, 110, 61, 34, 49, 46, 48, 34, 63, 62, 60, 33, 45, 45, 99, 45, 45, 62]
def qA : Bs := [10, 60, 63, 112, 63, 62]
def tkA (t : Tr) : List Tok := ⟨5, [], [], false, []⟩ :: ⟨3, [], [], false, [99]⟩ :: (toks t [] ++ [⟨2, [], [], false, [10]⟩, ⟨4, [112], [], false, []⟩])
set_option maxRecDepth 10000 in
theorem plain_p : plainB [112] = true := plain1 112 (by decide) (by decide) (by decide) (by decide)
set_option maxRecDepth 10000 in
theorem plain_x : plainB [120] = true := plain1 120 (by decide) (by decide) (by decide) (by decide)
set_option maxRecDepth 10000 in
theorem nxs_docA {t : Tr} (h : mayDoc t = true) : Nxs true (pA ++ (spell t [] ++ qA)) (tkA t) := by
 have hp := plain_parts plain_p
 refine .cons true _ (60 :: 33 :: 45 :: 45 :: ([99] ++ 45 :: 45 :: 62 :: (spell t [] ++ qA))) _ _ (.decl _) (.cons false _ (spell t [] ++ qA) _ _ (.note false [99] _ (cut_two [99] (62 :: (spell t [] ++ qA)) 45 45 (by decide))) ?_)
 refine nxs_doc h false qA _ ?_
 refine .cons false qA [60, 63, 112, 63, 62] _ _ (.chars false [10] [10] [60, 63, 112, 63, 62] (by simp) (by decide) (.inr ⟨_, rfl⟩) (by decide) (Exp.last [10] (by decide))) ?_
 exact .cons false _ [] _ _ (.pi [112] [] [] (nm_of hp.1 hp.2.1 (stops_byte (by decide))) (cut_two [] [] 63 62 (by decide)) (by decide) (.inl rfl)) (.nil false)
theorem gxs_docA {t : Tr} (h : mayDoc t = true) : Gxs gr0 (tkA t) ⟨[], some t⟩ := by
 refine .cons gr0 gr0 _ _ _ (.decl gr0 [] [] false []) (.cons gr0 gr0 _ _ _ (.noteTop gr0 [] [] false [99] rfl) ?_)
 refine gxs_doc h _ _ ?_
 exact .cons _ _ _ _ _ (.blank ⟨[], some t⟩ [] [] [10] rfl (by rfl)) (.cons _ _ _ _ _ (.piTop ⟨[], some t⟩ [112] [] false [] rfl plain_p) (.nil _))
theorem good_docA {t : Tr} (h : mayDoc t = true) : Good (pA ++ (spell t [] ++ qA)) (33 * szT t + 35) :=
 ((Good.lit pA (by decide)).app ((good_spell t [] 1 (may_of h).2).app (Good.lit qA (by decide)))).mono (by show 29 + (_ + 6) ≤ _; omega)
def inX (t : Tr) : Tr := .mk 0 [] [120] [] [t] []
def pX : Bs := [60, 120, 62]
def qX : Bs := [60, 47, 120, 62]
theorem spell_inX (t : Tr) : spell (inX t) [] = pX ++ (spell t [] ++ qX) := by
 unfold inX
 conv => lhs; unfold spell
 unfold spells spells
 simp [pairsEl, pairsAll, tellPairs, pX, qX]
theorem attrsOk_nil : attrsOk [] = true := by
 unfold attrsOk attrsOkN
 rfl
theorem may_inX {t : Tr} (h0 : t.kind = 0) (h : mayB t 2 = true) : mayDoc (inX t) = true := by
 have hk : mayBs [t] 0 2 = true := by
  unfold mayBs mayBs
  rw [h, h0]
  rfl
 unfold mayDoc inX mayB
 rw [hk, plain_x, textOk_nil, attrsOk_nil, if_pos rfl]
 show (decide ((0 : Int) = 0) && (decide (1 ≤ 30) && true && true && true && ([] != V.tNS) && ([] != V.tXML) && true && true)) = true
 decide
theorem good_docX {t : Tr} (h : mayDoc t = true) : Good (pX ++ (spell t [] ++ qX)) (33 * szT t + 7) :=
 ((Good.lit pX (by decide)).app ((good_spell t [] 1 (may_of h).2).app (Good.lit qX (by decide)))).mono (by show 3 + (_ + 4) ≤ _; omega)
def tkX (t : Tr) : List Tok := ⟨0, [120], [], false, []⟩ :: (toks t [] ++ [⟨1, [120], [], false, []⟩])
set_option maxRecDepth 10000 in
theorem nxs_docX {t : Tr} (h : mayDoc t = true) : Nxs true (pX ++ (spell t [] ++ qX)) (tkX t) := by
 have hx := plain_parts plain_x
 obtain ⟨h1, h2⟩ := may_of h
 refine .cons true _ (spell t [] ++ qX) _ _ (.opens true [120] (62 :: (spell t [] ++ qX)) [] false _ (nm_of hx.1 hx.2.1 (stops_byte (by decide))) (.done [] _)) ?_
 refine nxs_spell t [] 1 h2 false qX _ (fun e => by rw [h1] at e; cases e) (fun e => by cases e) ?_
 exact .cons false _ [] _ _ (.shut false [120] [] (nm_of hx.1 hx.2.1 (stops_byte (by decide)))) (.nil false)
theorem begins_x : Begins gr0 ⟨0, [120], [], false, []⟩ ⟨[120], [], [120], [], [], []⟩ ∧ home [] = X.M [] := by
 obtain ⟨sc, hsc, hb⟩ := begins_el (g := gr0) (k := 0) (sp := []) (nm := [120]) (up := []) (at_ := []) (kids := []) (d := []) (depth := 1) false (by
  unfold mayB mayBs
  rw [plain_x, textOk_nil, attrsOk_nil]
  decide) rfl home_nil
 obtain ⟨more, rest, e1, e2, e3⟩ := hb.decl
 have hm : more = [] := by
  have : V.declV [] [] (([] : List (Bs × Bs)).map toS) = ([], [], 0) := rfl
  rw [show ([] : List (Bs × Bs)).map toS = (pairsEl [] [] []).map toS from rfl] at this
  rw [this] at e1
  injection e1 with e1 _
  exact List.map_eq_nil_iff.1 e1.symm
 have hs : sc = [] := by
  have e2 : sc = gr0.scope ++ more := e2
  rw [e2, hm]
  rfl
 subst hs
 exact ⟨hb, home_nil⟩
theorem stuck_docX {t : Tr} (h : mayDoc t = true) (h' : mayB t 2 = false) : Gst gr0 (tkX t) := by
 obtain ⟨hb, hh⟩ := begins_x
 refine Gst.cons (Gx.start gr0 [120] [] [] _ rfl hb) ?_
 exact stuck t [] 1 (may_of h).2 h' ⟨[⟨[120], [], [120], [], [], []⟩], none⟩ _ rfl rfl hh
end Go.Proofs.YtadgeghipimfiaaGreatDoor.Z
end
section
namespace Go.Proofs.YtadgeghipimfiaaGreatDoor.X
open Go.RowKit Go.Shelf Go.Proofs.YtadgeghipimfiaaGreatDoorW.PrintWords Go.Proofs.YtadgeghipimfiaaGreatDoor.F Go.Proofs.YtadgeghipimfiaaGreatDoor.Pg Go.Proofs.YtadgeghipimfiaaGreatDoor.Z
set_option linter.unusedVariables false
set_option linter.unusedSimpArgs false
set_option maxRecDepth 100000 in
set_option maxHeartbeats 2000000 in
theorem begin_long {W : World} {base gb : Nat} {g : Gr} {es : List (Nat × Value)} {sv rv : Value} (t : Tok) (h : GrAt W base gb g es sv rv) (h30 : es.length = 30) (A : Option Addr) (c : Nat) :
  Calls Tryz.prog 66 #[.pointer (some ⟨gb, 0, none⟩), .agg (tokC t A c)] W fun e w' => e = .returned (.tuple #[.pointer none, .int .i64 2]) ∧ Below W.heap.size W w' := by
 obtain ⟨SA, sc, rfl, hsc⟩ := own_slice h.stk
 have hb0 := (Below.refl W.heap.size W).alloc (Nat.le_refl _) (.cells (tokC t A c) 60)
 have h0 := h.below hb0
 have hc0 : (W.alloc (.cells (tokC t A c) 60)).cell? ⟨gb, 0, none⟩ = some (.slice SA es.length sc) := h0.blk.cell 0
 rw [h30] at hc0
 have HB := Lib.hid hb0
 clear h h0 hb0 hsc
 go_enter Tryz.func66, Tryz.ntmps66
 go_wp2
 go_ret2
 exact ⟨rfl, HB.out⟩
set_option maxRecDepth 100000 in
set_option maxHeartbeats 2000000 in
theorem start_long {W : World} {base gb : Nat} {g : Gr} {es : List (Nat × Value)} {sv rv : Value} (t : Tok) (h : GrAt W base gb g es sv rv) (hroot : g.root = none) (h30 : es.length = 30) (A : Option Addr) (c : Nat) :
  Calls Tryz.prog 35 #[.pointer (some ⟨gb, 0, none⟩), .agg (tokC t A c)] W fun e w' => e = .returned (.int .i64 2) ∧ Below W.heap.size W w' := by
 have hb0 := (Below.refl W.heap.size W).alloc (Nat.le_refl _) (.cells (tokC t A c) 60)
 have hbx : Blk (W.alloc (.cells (tokC t A c) 60)) W.heap.size (tokC t A c) 60 := Blk.new _ _ _
 obtain rfl : rv = .pointer none := by
  have := h.root
  rw [hroot] at this
  exact this
 have h0 := h.below hb0
 have c1 : (W.alloc (.cells (tokC t A c) 60)).cell? ⟨gb, 1, none⟩ = some (.pointer none) := h0.blk.cell 1
 have x0 := hbx.cell 0
 have x1 := hbx.cell 1
 have x2 := hbx.cell 2
 have x3 := hbx.cell 3
 have x4 := hbx.cell 4
 have HC := Lib.hid (begin_long t h0 h30 A c)
 have HB := Lib.hid hb0
 clear h h0 hb0 hbx hroot h30
 go_enter Tryz.func35, Tryz.ntmps35
 go_wp2_with fail
 refine HC.out.mono ?_
 rintro e W1 ⟨rfl, h1⟩
 have H1 := Lib.hid (HB.out.trans (h1.mono HB.out.size))
 clear h1
 go_wp2
 go_ret
 exact ⟨rfl, H1.out⟩
set_option maxRecDepth 100000 in
set_option maxHeartbeats 2000000 in
theorem take_long {W : World} {base gb : Nat} {g : Gr} {es : List (Nat × Value)} {sv rv : Value} {t : Tok} (h : GrAt W base gb g es sv rv) (hroot : g.root = none) (h30 : es.length = 30) (ht : t.kind = 0) (A : Option Addr) (c : Nat) :
  Calls Tryz.prog 18 #[.pointer (some ⟨gb, 0, none⟩), .agg (tokC t A c)] W fun e w' => e = .returned (.int .i64 2) ∧ Below W.heap.size W w' := by
 have hbx : Blk (W.alloc (.cells (tokC t A c) 60)) W.heap.size (tokC t A c) 60 := Blk.new _ _ _
 have hb0 := (Below.refl W.heap.size W).alloc (Nat.le_refl _) (.cells (tokC t A c) 60)
 have HC := Lib.hid (start_long t (h.below hb0) hroot h30 A c)
 have HB := Lib.hid hb0
 have x0 : (W.alloc (.cells (tokC t A c) 60)).cell? ⟨W.heap.size, 0, none⟩ = some (.int .i64 t.kind) := hbx.cell 0
 have x1 := hbx.cell 1
 have x2 := hbx.cell 2
 have x3 := hbx.cell 3
 have x4 := hbx.cell 4
 have e0 : tokC t A c = #[.int .i64 0, .string (M t.name), .slice A t.attrs.length c, .bool t.alone, .string (M t.data)] := by unfold tokC; rw [ht]
 rw [ht] at x0
 rw [e0] at HC HB x0 x1 x2 x3 x4 ⊢
 clear h hbx hb0 hroot h30 ht
 go_enter Tryz.func18, Tryz.ntmps18
 go_wp2_with fail
 refine HC.out.mono ?_
 rintro e W1 ⟨rfl, h1⟩
 have H1 := Lib.hid (HB.out.trans (h1.mono HB.out.size))
 clear h1
 go_wp2
 go_ret
 exact ⟨rfl, H1.out⟩
set_option maxRecDepth 100000 in
set_option maxHeartbeats 4000000 in
theorem gparse_long (s : Bs) (toks : List Tok) (w : World) (hG : Glob w) (hs : s.length ≤ 100000) (hk : checkR (M s) = 0) (hl : U.linesL s = s) (hx : Nxs true s toks) (hD : DeclOk ∨ ∀ t ∈ toks, t.kind ≠ 5) (hn : toks.length ≤ 1000000) (hg : Gst ⟨[], none⟩ toks) :
  Calls Tryz.prog 8 #[.string (M s)] w fun e w' => e = .returned (.tuple #[.agg #[.int .i64 0, .string ⟨#[]⟩, .string ⟨#[]⟩, .slice none 0 0, .slice none 0 0, .string ⟨#[]⟩], .int .i64 2]) ∧ Below w.heap.size w w' := by
 have hb0 : Below w.heap.size w (w.alloc (.cells #[.int .i64 0, .string ⟨#[]⟩, .string ⟨#[]⟩, .slice none 0 0, .slice none 0 0, .string ⟨#[]⟩] 25)) := (Below.refl _ _).alloc (Nat.le_refl _) _
 have hbx := Blk.new w #[.int .i64 0, .string ⟨#[]⟩, .string ⟨#[]⟩, .slice none 0 0, .slice none 0 0, .string ⟨#[]⟩] 25
 obtain ⟨pre, tok, rest, gz, htk, hpre, hgz, hrz, hkz⟩ := hg
 have hpl : pre.length < toks.length := by rw [htk, List.length_append, List.length_cons]; omega
 have hgetp : toks[pre.length] = tok := by simp [htk]
 have HT := Lib.hid (tokens_calls s toks _ (hG.below hb0) hs hk hl hx hD)
 have HG := Lib.hid hG
 have HX := Lib.hid (And.intro hpre (And.intro (Z.nxs_len hx) (And.intro hgz (And.intro hrz (And.intro hkz (And.intro hgetp htk))))))
 have H0 := Lib.hid (And.intro hb0 hbx)
 have HS := Lib.hid hs
 clear hG hs hk hl hx hD hb0 hbx hpre hgz hrz hkz hgetp htk
 go_enter Tryz.func8, Tryz.ntmps8
 go_wp2_with fail
 refine HT.out.mono ?_
 rintro e w1 ⟨v, rfl, hR, hb1⟩
 obtain ⟨A, c, rfl, hc, hC⟩ := Kd.R_reads hR
 have hw1 := H0.out.1.trans (hb1.mono H0.out.1.size)
 have hbx1 := H0.out.2.below hb1 H0.out.2.lt
 have H1 := Lib.hid (And.intro hC (And.intro hw1 hbx1))
 clear hR hC hw1 hbx1 hb1 H0 HT
 have hg0 := grown_new w1
 have hba : Below w1.heap.size w1 (w1.alloc (.cells #[.slice none 0 0, .pointer none] 57)) := (Below.refl _ _).alloc (Nat.le_refl _) _
 have HI := Aside0.mk (And.intro hg0 (And.intro hba (And.intro small_new HX.out.1)))
 have hu106 := Tryz.underlying60
 have hu53 := Tryz.underlying25
 have hu103 := Tryz.underlying57
 clear hg0 hba
 go_wp2_with fail
 generalize w1.alloc (.cells #[.slice none 0 0, .pointer none] 57) = W0 at *
 go_loopw [23] (fun v23 wr => ∃ (k : Nat) (g : Gr) (es : List (Nat × Value)) (sv rv : Value), v23 = .int .i64 k ∧ k ≤ pre.length ∧ Aside0 (GrAt wr w1.heap.size w1.heap.size g es sv rv ∧ Below w1.heap.size w1 wr ∧ g.Small k ∧ Gxs g (pre.drop k) gz)) (fun v23 _ => pre.length - (intOf v23).toNat)
 case atStart => exact ⟨0, _, _, _, _, rfl, by omega, HI⟩
 case round =>
  obtain ⟨k, g, es, sv, rv, rfl, hk, HB⟩ := hrel
  have hlt : k < toks.length := by omega
  obtain ⟨ad, A', c', rfl, hcA, hA, c0, c1, c2, c3, c4⟩ := tok_at (Kd.C_below (d := kTok) H1.out.1 HB.out.2.1) k hlt
  have hb2 : Below wr.heap.size wr (wr.alloc (.cells (tokC toks[k] A' c') 60)) := (Below.refl _ _).alloc (Nat.le_refl _) _
  have hbt := Blk.new wr (tokC toks[k] A' c') 60
  by_cases hkp : k < pre.length
  ·have hget : toks[k] = pre[k] := by simp [HX.out.2.2.2.2.2.2, hkp]
   obtain ⟨m, hm, hrest⟩ := gxs_next HB.out.2.2.2 hkp
   rw [← hget] at hm
   have hfit := (HX.out.2.1 toks[k] (List.getElem_mem hlt)).mono (Nat.le_trans HS.out (show 100000 ≤ 4294967000 by decide))
   have hGr := HG.out.below (H1.out.2.1.trans ((HB.out.2.1.trans (hb2.mono HB.out.2.1.size)).mono H1.out.2.1.size))
   have HC := Lib.hid (gtake_calls (HB.out.1.below hb2) hGr HB.out.2.2.1 (show k ≤ 1000000 by omega) hfit hcA (Kd.C_below (d := kPair) hA hb2) hm)
   have x0 := hbt.cell 0
   have x1 := hbt.cell 1
   have x2 := hbt.cell 2
   have x3 := hbt.cell 3
   have x4 := hbt.cell 4
   have HM := Lib.hid (And.intro hm (And.intro hrest (HB.out.2.1.trans (hb2.mono HB.out.2.1.size))))
   clear hm hrest hb2 hbt hfit hGr hA hget
   go_wp2_with fail
   refine HC.out.mono ?_
   rintro e W2 ⟨rfl, es2, sv2, rv2, hg2, hb2⟩
   have H2 := Aside0.mk (And.intro hg2 (And.intro (HM.out.2.2.trans hb2) (And.intro (gx_small HB.out.2.2.1 HM.out.1) HM.out.2.1)))
   clear hg2 hb2 HC HM x0 x1 x2 x3 x4 c0 c1 c2 c3 c4
   go_wp2
   go_roundw
   case rel => exact ⟨k + 1, m, es2, sv2, rv2, by go_num, by omega, H2⟩
   case measure => simp [intOf]; omega
  ·obtain rfl : k = pre.length := by omega
   obtain rfl : g = gz := gxs_end HB.out.2.2.2 (by omega)
   have hes : es.length = 30 := by rw [← HB.out.1.len]; exact HX.out.2.2.1
   have HC := Lib.hid (take_long (t := toks[pre.length]) (HB.out.1.below hb2) HX.out.2.2.2.1 hes (by rw [HX.out.2.2.2.2.2.1]; exact HX.out.2.2.2.2.1) A' c')
   have x0 := hbt.cell 0
   have x1 := hbt.cell 1
   have x2 := hbt.cell 2
   have x3 := hbt.cell 3
   have x4 := hbt.cell 4
   have HM := Lib.hid (HB.out.2.1.trans (hb2.mono HB.out.2.1.size))
   clear hb2 hbt hA hes
   go_wp2_with fail
   refine HC.out.mono ?_
   rintro e W2 ⟨rfl, hb2⟩
   have hbw := HM.out.trans (hb2.mono HM.out.size)
   have hres := H1.out.2.2.below hbw H1.out.2.2.lt
   have f0 := hres.frozen
   have y0 := hres.cell 0
   have y1 := hres.cell 1
   have y2 := hres.cell 2
   have y3 := hres.cell 3
   have y4 := hres.cell 4
   have y5 := hres.cell 5
   have HF := Lib.hid (And.intro hres (H1.out.2.1.trans (hbw.mono H1.out.2.1.size)))
   clear hb2 hbw hres HC HM x0 x1 x2 x3 x4 c0 c1 c2 c3 c4
   go_wp2_with fail
   obtain ⟨hres, hB0⟩ := HF.out
   obtain ⟨hb, hsz, hout⟩ := six_put hres (.int .i64 0) (.string ⟨#[]⟩) (.string ⟨#[]⟩) (.slice none 0 0) (.slice none 0 0) (.string ⟨#[]⟩)
   exact bodyPost_ret (results_ct rfl _ _ w.heap.size 25 _ (0, 0) _ rfl hb Tryz.underlying25 rfl (by kernel_rfl)) rfl ⟨rfl, hB0.trans hsz⟩
theorem must_no (w : World) : Calls Tryz.prog 91 #[.bool false] w fun e w' => e = .panicked [{ v := .iface 28 (.int .i64 70), recovered := false }] ∧ w' = w := by
 go_enter Tryz.func91, Tryz.ntmps91
 go_wp2
 exact ⟨rfl, rfl, rfl⟩
theorem idle204 (p q r t : Addr) (w : World) : CallsD Tryz.prog 126 #[.pointer (some p), .pointer (some q), .pointer (some r), .pointer (some t)] .returning w fun e u' w' => e = .returned (.tuple #[]) ∧ u' = .returning ∧ w' = w := by
 refine callsD_of_wpS Tryz.func126 rfl fun c₀ cs hu => ?_
 apply wpS_seq
 apply wpS_region
 simp [wpOpsS, go_sem, recoverD, hu, Tryz.ntmps126, Exit.thenS]
 apply wpS_seq
 apply wpS_region
 simp [wpOpsS, go_sem, Exit.thenS]
 refine wpS_cond (t := false) (by simp [Act.eval, Array.replicate]) ?_
 simp only [Bool.false_eq_true, if_false]
 refine wpS_of_wp (wp_skip ?_)
 cases c₀
 simp_all [bodyPostS, results, Tryz.results126]
set_option maxHeartbeats 2000000 in
theorem catch204 (p q r t : Addr) (b : Nat) (s : ByteArray) (x y z : Value) (u : TypeId) (pv : Value) (w : World) (hp : w.cell? p = some (.string s)) (hq : w.cell? q = some (.pointer (some ⟨b, 0, none⟩)))
  (hb : w.cell? ⟨b, 0, none⟩ = some x) (hr : w.cell? r = some y) (ht : w.cell? t = some z) (hfb : w.frozen? ⟨b, 0, none⟩ = false) (hfr : w.frozen? r = false) (hft : w.frozen? t = false) (hr1 : r.block ≠ b) (hr2 : t.block ≠ b) (hr3 : r.block ≠ t.block) :
  CallsD Tryz.prog 126 #[.pointer (some p), .pointer (some q), .pointer (some r), .pointer (some t)] (.panicking [{ v := .iface u pv, recovered := false }]) w fun e u' w' =>
   e = .returned (.tuple #[]) ∧ u' = .panicking [{ v := .iface u pv, recovered := true }] ∧ w' = ((w.setCell ⟨b, 0, none⟩ (.string s)).setCell r (.string ⟨#[]⟩)).setCell t (.bool false) := by
 have e1 : (w.setCell ⟨b, 0, none⟩ (.string s)).frozen? r = false := by rw [World.frozen?_setCell]; exact hfr
 have e2 : ((w.setCell ⟨b, 0, none⟩ (.string s)).setCell r (.string ⟨#[]⟩)).frozen? t = false := by rw [World.frozen?_setCell, World.frozen?_setCell]; exact hft
 have e3 : (w.setCell ⟨b, 0, none⟩ (.string s)).cell? r = some y := by rw [World.cell?_setCell_other _ _ _ _ (fun h => hr1 (congrArg Addr.block h).symm)]; exact hr
 have e4 : ((w.setCell ⟨b, 0, none⟩ (.string s)).setCell r (.string ⟨#[]⟩)).cell? t = some z := by
  rw [World.cell?_setCell_other _ _ _ _ (fun h => hr3 (congrArg Addr.block h)), World.cell?_setCell_other _ _ _ _ (fun h => hr2 (congrArg Addr.block h).symm)]; exact ht
 refine callsD_of_wpS Tryz.func126 rfl fun c₀ cs hu => ?_
 apply wpS_seq
 apply wpS_region
 simp [wpOpsS, go_sem, recoverD, hu, Tryz.ntmps126, Exit.thenS]
 apply wpS_seq
 apply wpS_region
 simp [wpOpsS, go_sem, Exit.thenS]
 refine wpS_cond (t := true) (by simp [Act.eval, Array.replicate]) ?_
 simp only [if_true]
 apply wpS_region
 simp [wpOpsS, go_sem, hp, hq, hb, hr, ht, hfb, hfr, hft, e1, e2, e3, e4]
 simp [bodyPostS, results, Tryz.results126]
structure WordAt (w W : World) (b base : Nat) (s was : Bs) (ts : List Tok) (o : Value) : Prop where
 can : Can W b base s ts o
 p : Boxed W w.heap.size 71 (.pointer (some ⟨b, 0, none⟩))
 v : Boxed W (w.heap.size + 1) 9 (.string ⟨#[]⟩)
 ok : Boxed W (w.heap.size + 2) 4 (.bool false)
 was : Boxed W (w.heap.size + 3) 9 (.string (M was))
 off : Only b w W
 lt : b < w.heap.size
 le : base ≤ w.heap.size
theorem WordAt.only {w W W' : World} {b base : Nat} {s s' was : Bs} {ts : List Tok} {o : Value} (h : WordAt w W b base s was ts o) (ho : Only b W W') (hc : Can W' b base s' ts o) : WordAt w W' b base s' was ts o := by
 have hl := h.lt
 exact ⟨hc, (ho.block _ h.p.lt (by omega)).trans h.p, (ho.block _ h.v.lt (by omega)).trans h.v, (ho.block _ h.ok.lt (by omega)).trans h.ok, (ho.block _ h.was.lt (by omega)).trans h.was, h.off.trans ho, h.lt, h.le⟩
theorem WordAt.new {w : World} {b base : Nat} {s : Bs} {ts : List Tok} {o : Value} (h : Can w b base s ts o) :
  WordAt w ((((w.alloc (.cells #[.pointer (some ⟨b, 0, none⟩)] 71)).alloc (.cells #[.string ⟨#[]⟩] 9)).alloc (.cells #[.bool false] 4)).alloc (.cells #[.string (M s)] 9)) b base s s ts o := by
 have hlt := h.sc.scan.lt
 have hle := h.sc.le
 have b1 := Boxed.new w 71 (.pointer (some ⟨b, 0, none⟩))
 have b2 := Boxed.new (w.alloc (.cells #[.pointer (some ⟨b, 0, none⟩)] 71)) 9 (.string ⟨#[]⟩)
 have b3 := Boxed.new ((w.alloc (.cells #[.pointer (some ⟨b, 0, none⟩)] 71)).alloc (.cells #[.string ⟨#[]⟩] 9)) 4 (.bool false)
 have b4 := Boxed.new (((w.alloc (.cells #[.pointer (some ⟨b, 0, none⟩)] 71)).alloc (.cells #[.string ⟨#[]⟩] 9)).alloc (.cells #[.bool false] 4)) 9 (.string (M s))
 simp only [World.size_alloc, Nat.add_assoc, Nat.reduceAdd] at b1 b2 b3 b4
 have hb : Below w.heap.size w ((((w.alloc (.cells #[.pointer (some ⟨b, 0, none⟩)] 71)).alloc (.cells #[.string ⟨#[]⟩] 9)).alloc (.cells #[.bool false] 4)).alloc (.cells #[.string (M s)] 9)) :=
  ((((Below.refl _ w).alloc (Nat.le_refl _) _).alloc (by simp) _).alloc (by simp [World.size_alloc]; omega) _).alloc (by simp [World.size_alloc]; omega) _
 exact ⟨h.below hb, (((b1.alloc _).alloc _).alloc _), (b2.alloc _).alloc _, b3.alloc _, b4, (Off.of_below hb), hlt, hle⟩
set_option maxRecDepth 100000 in
set_option maxHeartbeats 4000000 in
theorem word_no {w : World} {b base : Nat} {s t : Bs} {ts : List Tok} {o : Value} (h : Can w b base s ts o) (hs : Lib.trimLeftS s wsS = s) :
  Calls Tryz.prog 90 #[.pointer (some ⟨b, 0, none⟩), .string (M t)] w fun e w' => e = .returned (.tuple #[.string ⟨#[]⟩, .bool false]) ∧ Ch b base w w' ∧ Can w' b base s ts o := by
 have hmf : ∀ (fn : Fn) (first cap : Array Value) (w : World), (Instr.makeFunc fn first cap).run Tryz.prog w = .ok (.func fn first cap) w := fun _ _ _ _ => rfl
 have hc0 : w.cell? ⟨b, 0, none⟩ = some (.string (M s)) := h.sc.scan.cell 0
 have hlt := h.sc.scan.lt
 have hc1 : (((w.alloc (.cells #[.pointer (some ⟨b, 0, none⟩)] 71)).alloc (.cells #[.string ⟨#[]⟩] 9)).alloc (.cells #[.bool false] 4)).cell? ⟨b, 0, none⟩ = some (.string (M s)) :=
  ((h.sc.scan.below ((((Below.refl _ w).alloc (Nat.le_refl _) _).alloc (by simp) _).alloc (by simp [World.size_alloc]; omega) _) hlt).cell 0)
 have H0 := Lib.hid (WordAt.new h)
 have HS := Lib.hid hs
 have HR := Lib.hid h.sc.row
 clear h hs
 go_enter_defers Tryz.func90, Tryz.ntmps90
 go_wp2_with fail
 generalize ((((w.alloc (.cells #[.pointer (some ⟨b, 0, none⟩)] 71)).alloc (.cells #[.string ⟨#[]⟩] 9)).alloc (.cells #[.bool false] 4)).alloc (.cells #[.string (M s)] 9)) = W0 at *
 refine (space_can H0.out.can).mono ?_
 rintro e w1 ⟨rfl, ho, h1⟩
 rw [HS.out] at h1
 rw [HS.out, decide_eq_false (Nat.lt_irrefl _)]
 have H1 := Lib.hid (H0.out.only ho h1)
 clear ho h1 hc0 hc1
 go_wp2_with fail
 refine (must_no w1).mono ?_
 rintro e w2 ⟨rfl, rfl⟩
 go_wp2_with fail
 have hbc : w2.cell? ⟨b, 0, none⟩ = some (.string (M s)) := H1.out.can.sc.scan.cell 0
 have hlt2 := H1.out.lt
 have hX : Off (fun k => k = b ∨ k = w.heap.size + 1 ∨ k = w.heap.size + 2) w2 (((w2.setCell ⟨b, 0, none⟩ (.string (M s))).setCell ⟨w.heap.size + 1, 0, none⟩ (.string ⟨#[]⟩)).setCell ⟨w.heap.size + 2, 0, none⟩ (.bool false)) :=
  (((Off.refl _ w2).set _ _ (.inl (.inl rfl))).set _ _ (.inl (.inr (.inl rfl)))).set _ _ (.inl (.inr (.inr rfl)))
 have s1 : Scan ((w2.setCell ⟨b, 0, none⟩ (.string (M s))).setCell ⟨w.heap.size + 1, 0, none⟩ (.string ⟨#[]⟩)) b (M s) o :=
  (Below.heap_setCell _ _ _ _ (show b ≠ w.heap.size + 1 by omega)).trans (Blk.set H1.out.can.sc.scan 0 _)
 have s2 : Scan (((w2.setCell ⟨b, 0, none⟩ (.string (M s))).setCell ⟨w.heap.size + 1, 0, none⟩ (.string ⟨#[]⟩)).setCell ⟨w.heap.size + 2, 0, none⟩ (.bool false)) b (M s) o :=
  (Below.heap_setCell _ _ _ _ (show b ≠ w.heap.size + 2 by omega)).trans s1
 have v1 : Boxed (w2.setCell ⟨b, 0, none⟩ (.string (M s))) (w.heap.size + 1) 9 (.string ⟨#[]⟩) := (Below.heap_setCell _ _ _ _ (show w.heap.size + 1 ≠ b by omega)).trans H1.out.v
 have k1 : Boxed (w2.setCell ⟨b, 0, none⟩ (.string (M s))) (w.heap.size + 2) 4 (.bool false) := (Below.heap_setCell _ _ _ _ (show w.heap.size + 2 ≠ b by omega)).trans H1.out.ok
 have v2 : Boxed (((w2.setCell ⟨b, 0, none⟩ (.string (M s))).setCell ⟨w.heap.size + 1, 0, none⟩ (.string ⟨#[]⟩)).setCell ⟨w.heap.size + 2, 0, none⟩ (.bool false)) (w.heap.size + 1) 9 (.string ⟨#[]⟩) :=
  (Below.heap_setCell _ _ _ _ (show w.heap.size + 1 ≠ w.heap.size + 2 by omega)).trans (Blk.set v1 0 _)
 have k2 : Boxed ((w2.setCell ⟨b, 0, none⟩ (.string (M s))).setCell ⟨w.heap.size + 1, 0, none⟩ (.string ⟨#[]⟩)) (w.heap.size + 2) 4 (.bool false) := (Below.heap_setCell _ _ _ _ (show w.heap.size + 2 ≠ w.heap.size + 1 by omega)).trans k1
 have k3 : Boxed (((w2.setCell ⟨b, 0, none⟩ (.string (M s))).setCell ⟨w.heap.size + 1, 0, none⟩ (.string ⟨#[]⟩)).setCell ⟨w.heap.size + 2, 0, none⟩ (.bool false)) (w.heap.size + 2) 4 (.bool false) := Blk.set k2 0 _
 have qv := v2.cell
 have qk := k3.cell
 have hcan : Can (((w2.setCell ⟨b, 0, none⟩ (.string (M s))).setCell ⟨w.heap.size + 1, 0, none⟩ (.string ⟨#[]⟩)).setCell ⟨w.heap.size + 2, 0, none⟩ (.bool false)) b base s ts o := by
  have hle2 := H1.out.le
  refine ⟨⟨s2, ?_, H1.out.can.sc.lt, Nat.le_trans H1.out.can.sc.le hX.size, H1.out.can.sc.few⟩, H1.out.can.gb.off hX (fun k hk => by omega), H1.out.can.len, H1.out.can.room⟩
  exact Kd.R_step HR.out (fun k hk hlt => ((H1.out.off.mono (T := fun k => k = b ∨ w.heap.size ≤ k) (fun k _ hk => .inl hk)).trans (hX.mono (T := fun k => k = b ∨ w.heap.size ≤ k) (fun k _ hk => by omega))).block k hlt (fun hk2 => by rcases hk2 with e | e; exact hk e; omega))
 have hch : Ch b base w (((w2.setCell ⟨b, 0, none⟩ (.string (M s))).setCell ⟨w.heap.size + 1, 0, none⟩ (.string ⟨#[]⟩)).setCell ⟨w.heap.size + 2, 0, none⟩ (.bool false)) :=
  (och base H1.out.off).trans (hX.mono fun k _ hk => by have := H1.out.le; omega)
 refine leaves_cons (f := 126) (args := #[.pointer (some ⟨w.heap.size + 3, 0, none⟩), .pointer (some ⟨w.heap.size, 0, none⟩), .pointer (some ⟨w.heap.size + 1, 0, none⟩), .pointer (some ⟨w.heap.size + 2, 0, none⟩)]) (by simp) (by simp [go_sem]) ?_
 refine (catch204 _ _ _ _ b (M s) _ _ _ 28 _ _ H1.out.was.cell H1.out.p.cell hbc H1.out.v.cell H1.out.ok.cell (H1.out.can.sc.scan.frozen 0) H1.out.v.frozen H1.out.ok.frozen (by show w.heap.size + 1 ≠ b; omega) (by show w.heap.size + 2 ≠ b; omega) (by show w.heap.size + 1 ≠ w.heap.size + 2; omega)).mono ?_
 rintro e u' w'' ⟨rfl, rfl, rfl⟩
 simp [Leaves, settle, results, Tryz.results90, go_sem, qv, qk, hch, hcan]
theorem word_end {w W : World} {b base : Nat} {s was : Bs} {ts : List Tok} {o : Value} (h : WordAt w W b base s was ts o) (hr : kTok.R 60 w base (fun k => k ≠ b) o ts) (x y : Value) :
  Can ((W.setCell ⟨w.heap.size + 1, 0, none⟩ x).setCell ⟨w.heap.size + 2, 0, none⟩ y) b base s ts o ∧ Ch b base w ((W.setCell ⟨w.heap.size + 1, 0, none⟩ x).setCell ⟨w.heap.size + 2, 0, none⟩ y) ∧
  ((W.setCell ⟨w.heap.size + 1, 0, none⟩ x).setCell ⟨w.heap.size + 2, 0, none⟩ y).cell? ⟨w.heap.size + 1, 0, none⟩ = some x ∧ ((W.setCell ⟨w.heap.size + 1, 0, none⟩ x).setCell ⟨w.heap.size + 2, 0, none⟩ y).cell? ⟨w.heap.size + 2, 0, none⟩ = some y := by
 have hlt := h.lt
 have hle := h.le
 have hX : Off (fun k => k = w.heap.size + 1 ∨ k = w.heap.size + 2) W ((W.setCell ⟨w.heap.size + 1, 0, none⟩ x).setCell ⟨w.heap.size + 2, 0, none⟩ y) :=
  ((Off.refl _ W).set _ _ (.inl (.inl rfl))).set _ _ (.inl (.inr rfl))
 have hs := h.can.sc.scan.off hX (by omega)
 have v1 : Boxed (W.setCell ⟨w.heap.size + 1, 0, none⟩ x) (w.heap.size + 1) 9 x := Blk.set h.v 0 _
 have v2 : Boxed ((W.setCell ⟨w.heap.size + 1, 0, none⟩ x).setCell ⟨w.heap.size + 2, 0, none⟩ y) (w.heap.size + 1) 9 x := (Below.heap_setCell _ _ _ _ (show w.heap.size + 1 ≠ w.heap.size + 2 by omega)).trans v1
 have k1 : Boxed (W.setCell ⟨w.heap.size + 1, 0, none⟩ x) (w.heap.size + 2) 4 (.bool false) := (Below.heap_setCell _ _ _ _ (show w.heap.size + 2 ≠ w.heap.size + 1 by omega)).trans h.ok
 have k2 : Boxed ((W.setCell ⟨w.heap.size + 1, 0, none⟩ x).setCell ⟨w.heap.size + 2, 0, none⟩ y) (w.heap.size + 2) 4 y := Blk.set k1 0 _
 refine ⟨⟨⟨hs, ?_, h.can.sc.lt, Nat.le_trans h.can.sc.le hX.size, h.can.sc.few⟩, h.can.gb.off hX (fun k hk => by omega), h.can.len, h.can.room⟩, ?_, v2.cell, k2.cell⟩
 ·exact Kd.R_step hr (fun k hk hlt => ((h.off.mono (T := fun k => k = b ∨ w.heap.size ≤ k) (fun k _ hk => .inl hk)).trans (hX.mono (T := fun k => k = b ∨ w.heap.size ≤ k) (fun k _ hk => by omega))).block k hlt (fun hk2 => by rcases hk2 with e | e; exact hk e; omega))
 ·exact (och base h.off).trans (hX.mono fun k _ hk => by omega)
set_option maxRecDepth 100000 in
set_option maxHeartbeats 4000000 in
theorem word_yes {w : World} {b base : Nat} {s t u v : Bs} {ts : List Tok} {o : Value} (h : Can w b base s ts o) (hs : s = 32 :: (t ++ 61 :: 34 :: (u ++ 34 :: v))) (ht : Lib.trimLeftS s wsS = t ++ 61 :: 34 :: (u ++ 34 :: v)) (hcut : Lib.cut (u ++ 34 :: v) [34] = (u, v, true)) :
  Calls Tryz.prog 90 #[.pointer (some ⟨b, 0, none⟩), .string (M t)] w fun e w' => e = .returned (.tuple #[.string (M u), .bool true]) ∧ Ch b base w w' ∧ Can w' b base v ts o := by
 have hmf : ∀ (fn : Fn) (first cap : Array Value) (w : World), (Instr.makeFunc fn first cap).run Tryz.prog w = .ok (.func fn first cap) w := fun _ _ _ _ => rfl
 have hc0 : w.cell? ⟨b, 0, none⟩ = some (.string (M s)) := h.sc.scan.cell 0
 have hlt := h.sc.scan.lt
 have hc1 : (((w.alloc (.cells #[.pointer (some ⟨b, 0, none⟩)] 71)).alloc (.cells #[.string ⟨#[]⟩] 9)).alloc (.cells #[.bool false] 4)).cell? ⟨b, 0, none⟩ = some (.string (M s)) :=
  ((h.sc.scan.below ((((Below.refl _ w).alloc (Nat.le_refl _) _).alloc (by simp) _).alloc (by simp [World.size_alloc]; omega) _) hlt).cell 0)
 have H0 := Lib.hid (WordAt.new h)
 have HR := Lib.hid h.sc.row
 have HS := Lib.hid (And.intro hs (And.intro ht hcut))
 have hlen := h.len
 have hln : s.length = t.length + u.length + v.length + 4 := by rw [hs]; simp; omega
 have hdt : decide ((Lib.trimLeftS s wsS).length < s.length) = true := by rw [ht]; exact decide_eq_true (by rw [hln]; simp; omega)
 have HD := Lib.hid hdt
 clear h hs ht hcut hdt
 go_enter_defers Tryz.func90, Tryz.ntmps90
 go_wp2_with fail
 generalize ((((w.alloc (.cells #[.pointer (some ⟨b, 0, none⟩)] 71)).alloc (.cells #[.string ⟨#[]⟩] 9)).alloc (.cells #[.bool false] 4)).alloc (.cells #[.string (M s)] 9)) = W0 at *
 refine (space_can H0.out.can).mono ?_
 rintro e w1 ⟨rfl, ho, h1⟩
 rw [HD.out]
 rw [HS.out.2.1] at h1
 have H1 := Lib.hid (H0.out.only ho h1)
 have z1 := H1.out.p.cell
 clear ho h1 hc0 hc1
 go_wp2_with fail
 refine (take_yes H1.out.can).mono ?_
 rintro e w2 ⟨rfl, ho, h2⟩
 have H2 := Lib.hid (H1.out.only ho h2)
 have z2 := H2.out.p.cell
 clear ho h2 z1
 go_wp2_with fail
 refine (must_ok w2).mono ?_
 rintro e w3 ⟨rfl, rfl⟩
 go_wp2_with fail
 refine (equals_calls b 34 u v o w3 H2.out.can.gb (.inl rfl) H2.out.can.sc.scan (by rw [List.length_append, List.length_cons]; omega) HS.out.2.2).mono ?_
 rintro e w4 ⟨rfl, ho, h4⟩
 have H4 := Lib.hid (H2.out.only ho (H2.out.can.only (s' := v) ho h4 (by simp; omega)))
 clear ho h4 z2
 have x1 := H4.out.v.cell
 have x2 := H4.out.ok.cell
 have f1 := H4.out.v.frozen
 have f2 := H4.out.ok.frozen
 go_wp2_with fail
 obtain ⟨c1, c2, qv, qk⟩ := word_end H4.out HR.out (.string (M u)) (.bool true)
 refine leaves_cons (f := 126) (args := #[.pointer (some ⟨w.heap.size + 3, 0, none⟩), .pointer (some ⟨w.heap.size, 0, none⟩), .pointer (some ⟨w.heap.size + 1, 0, none⟩), .pointer (some ⟨w.heap.size + 2, 0, none⟩)]) (by simp) (by simp [go_sem]) ?_
 refine (idle204 _ _ _ _ _).mono ?_
 rintro e u' w'' ⟨rfl, rfl, rfl⟩
 simp [Leaves, settle, results, Tryz.results90, go_sem, qv, qk, c1, c2]
def versionS : Bs := [118, 101, 114, 115, 105, 111, 110]
set_option maxRecDepth 100000 in
set_option maxHeartbeats 4000000 in
theorem decl_can {w : World} {b base : Nat} {r : Bs} {ts : List Tok} {o : Value} (h : Can w b base (32 :: (versionS ++ 61 :: 34 :: ([49, 46, 48] ++ 34 :: 63 :: 62 :: r))) ts o) :
  Calls Tryz.prog 57 #[.pointer (some ⟨b, 0, none⟩)] w (Stepped b base r (ts ++ [⟨5, [], [], false, []⟩]) w) := by
 have H := Lib.hid h
 clear h
 go_enter Tryz.func57, Tryz.ntmps57
 go_wp2_with fail
 refine (word_yes (t := versionS) (u := [49, 46, 48]) (v := 63 :: 62 :: r) H.out rfl rfl rfl).mono ?_
 rintro e w1 ⟨rfl, ho1, h1⟩
 have HO1 := Lib.hid ho1
 have H1 := Lib.hid h1
 clear ho1 h1
 go_wp2_with fail
 refine (Tryz.strings_CutPrefix (M [49, 46, 48]) (M [49, 46]) w1).mono ?_
 rintro e w2 ⟨rfl, rfl⟩
 rw [show Lib.hasPrefix (M [49, 46, 48]).data.toList (M [49, 46]).data.toList = true from rfl]
 rw [show Lib.trimPrefix (M [49, 46, 48]).data.toList (M [49, 46]).data.toList = [48] from rfl]
 go_wp2_with fail
 refine (trim_calls (M [48]) [48, 49, 50, 51, 52, 53, 54, 55, 56, 57] w2 (by decide) (by decide) (ascii_of_all (l := [48, 49, 50, 51, 52, 53, 54, 55, 56, 57]) (by decide))).mono ?_
 rintro e w3 ⟨rfl, h3⟩
 rw [show Lib.trimS (L (M [48])) [48, 49, 50, 51, 52, 53, 54, 55, 56, 57] = [] from rfl]
 have HO3 := Lib.hid (HO1.out.trans (Off.of_below h3))
 have H3 := Lib.hid (H1.out.below h3)
 clear h3
 go_wp2_with fail
 refine (must_ok w3).mono ?_
 rintro e w4 ⟨rfl, rfl⟩
 go_wp2_with fail
 refine (word_no (t := [101, 110, 99, 111, 100, 105, 110, 103]) H3.out rfl).mono ?_
 rintro e w5 ⟨rfl, ho, h5⟩
 have HO5 := Lib.hid (HO3.out.trans (ho.mono fun _ _ h => h))
 have H5 := Lib.hid h5
 clear ho h5
 go_wp2_with fail
 refine (word_no (t := [115, 116, 97, 110, 100, 97, 108, 111, 110, 101]) H5.out rfl).mono ?_
 rintro e w6 ⟨rfl, ho, h6⟩
 have HO6 := Lib.hid (HO5.out.trans (ho.mono fun _ _ h => h))
 have H6 := Lib.hid h6
 clear ho h6
 go_wp2_with fail
 refine (space_can H6.out).mono ?_
 rintro e w7 ⟨rfl, ho, h7⟩
 have HO7 := Lib.hid (HO6.out.trans (och base ho))
 have H7 := Lib.hid (show Can w7 b base ([63, 62] ++ r) ts o from h7)
 clear ho h7
 go_wp2_with fail
 refine (take_yes H7.out).mono ?_
 rintro e w8 ⟨rfl, ho, h8⟩
 have HO8 := Lib.hid (HO7.out.trans (och base ho))
 have H8 := Lib.hid h8
 clear ho h8
 go_wp2_with fail
 refine (must_ok w8).mono ?_
 rintro e w9 ⟨rfl, rfl⟩
 go_wp2_with fail
 refine (put_bare H8.out 5 [] false []).mono ?_
 rintro e wa ha
 have HA := Lib.hid (ha.after HO8.out)
 obtain ⟨oa, rfl, _⟩ := ha
 go_wp2
 go_end0
 exact HA.out
set_option maxRecDepth 100000 in
theorem declared_yes {w : World} {b base : Nat} {r : Bs} {o : Value} (h : Can w b base (xmlP ++ 32 :: r) [] o) :
  Calls Tryz.prog 56 #[.pointer (some ⟨b, 0, none⟩)] w fun e w' => e = .returned (.bool true) ∧ Below w.heap.size w w' := by
 have hc : w.cell? ⟨b, 0, none⟩ = some (.string (M (xmlP ++ 32 :: r))) := h.sc.scan.cell 0
 have hc1 : w.cell? ⟨b, 1, none⟩ = some o := h.sc.scan.cell 1
 obtain ⟨A, c, rfl⟩ := Kd.R_slice h.sc.row
 clear h
 have hle := (List.dropWhile_suffix (l := r) (fun c => [32, 9, 10, 13].contains c)).length_le
 go_enter Tryz.func56, Tryz.ntmps56
 go_wp2_with fail
 refine (Tryz.strings_CutPrefix (M (xmlP ++ 32 :: r)) (M xmlP) w).mono ?_
 rintro e w1 ⟨rfl, rfl⟩
 rw [show Lib.hasPrefix (M (xmlP ++ 32 :: r)).data.toList (M xmlP).data.toList = true from rfl]
 rw [show Lib.trimPrefix (M (xmlP ++ 32 :: r)).data.toList (M xmlP).data.toList = 32 :: r from rfl]
 go_wp2_with fail
 refine (skip_calls (M (32 :: r)) w1).mono ?_
 rintro e w2 ⟨rfl, h2⟩
 rw [show Lib.trimLeftS (L (M (32 :: r))) wsS = Lib.trimLeftS r wsS from rfl]
 have hlt : decide (((Lib.trimLeftS r wsS).length : Int) < (r.length : Int) + 1) = true := decide_eq_true (by have : (Lib.trimLeftS r wsS).length ≤ r.length := hle; omega)
 have HF := Lib.hid h2
 clear h2 hle
 go_wp2
 go_ret
 exact ⟨rfl, HF.out⟩
set_option maxRecDepth 100000 in
set_option maxHeartbeats 1000000 in
theorem decl_ok : DeclOk := by
 intro w b base r o h
 have H0 := Lib.hid (show Can w b base (xmlP ++ 32 :: (versionS ++ 61 :: 34 :: ([49, 46, 48] ++ 34 :: 63 :: 62 :: r))) [] o from h)
 clear h
 go_enter Tryz.func34, Tryz.ntmps34
 go_wp2_with fail
 refine (declared_yes H0.out).mono ?_
 rintro e w1 ⟨rfl, h1⟩
 have H1 := Lib.hid (H0.out.below h1)
 have HO1 := Lib.hid (show Ch b base w w1 from Off.of_below h1)
 obtain ⟨q, hq⟩ : ∃ q, q = 32 :: (versionS ++ 61 :: 34 :: ([49, 46, 48] ++ 34 :: 63 :: 62 :: r)) := ⟨_, rfl⟩
 rw [← hq] at H1
 have HQ := Lib.hid hq
 have hc : w1.cell? ⟨b, 0, none⟩ = some (.string (M (60 :: 63 :: 120 :: 109 :: 108 :: q))) := H1.out.sc.scan.cell 0
 clear hq
 have hf := H1.out.sc.scan.frozen 0
 clear h1
 have hln := H1.out.len
 rw [List.length_append, show xmlP.length = 5 from rfl] at hln
 have hx : (M (60 :: 63 :: 120 :: 109 :: 108 :: q)).extract 5 (q.length + 1 + 1 + 1 + 1 + 1) = M q := by
  rw [M_extract]
  show M (((60 :: 63 :: 120 :: 109 :: 108 :: q).take (q.length + 1 + 1 + 1 + 1 + 1)).drop 5) = M q
  rw [List.take_of_length_le (by simp)]
  rfl
 go_wp2_with fail
 have hoff : Only b w1 (w1.setCell ⟨b, 0, none⟩ (.string (M q))) := (Off.refl _ w1).set _ _ (.inl rfl)
 have HO2 := Lib.hid (HO1.out.trans (och base hoff))
 have hcan : Can (w1.setCell ⟨b, 0, none⟩ (.string (M q))) b base q [] o := H1.out.only hoff (Blk.set H1.out.sc.scan 0 _) (by simp)
 rw [HQ.out] at hcan
 have HC := Lib.hid hcan
 clear hcan hoff hc hx hf
 rw [← HQ.out] at HC
 generalize w1.setCell ⟨b, 0, none⟩ (.string (M q)) = w2 at *
 rw [HQ.out] at HC
 refine (decl_can HC.out).mono ?_
 rintro e w3 h3
 have H3 := Lib.hid (h3.after HO2.out)
 obtain ⟨o3, rfl, _⟩ := h3
 go_wp2
 go_end0
 exact H3.out
end Go.Proofs.YtadgeghipimfiaaGreatDoor.X
end
section
namespace Go.Proofs.YtadgeghipimfiaaGreatDoor.X
open Go.RowKit Go.Shelf Go.Proofs.YtadgeghipimfiaaGreatDoorW.PrintWords Go.Proofs.YtadgeghipimfiaaGreatDoor.F Go.Proofs.YtadgeghipimfiaaGreatDoor.Pg Go.Proofs.YtadgeghipimfiaaGreatDoor.Z Go.Proofs.YtadgeghipimfiaaGreatDoorW.PrintLast
set_option linter.unusedVariables false
set_option linter.unusedSimpArgs false
def leafT10 : Bool × List (List Nat × List Nat) := (true, [([], []), ([0], [0]), ([1], [1]), ([2, 2], [2]), ([3], [3]), ([4, 3], [3, 4]), ([5, 3, 3], [3, 5]), ([6, 3], [3, 6]), ([3, 7], [3, 7]), ([8, 6], [8]), ([9], [9]), ([9, 10], [9, 10]), ([11, 9], [11]), ([12], [12]), ([13, 12], [12, 13]), ([14, 12, 12], [12, 14]), ([15, 12], [12, 15]), ([12, 16], [12, 16]), ([17, 15], [17]), ([18], [18]), ([19, 18], [18, 19]), ([20, 18, 18], [18, 20]), ([18], [18]), ([22, 18], [18, 22]), ([21, 23, 18], [18, 21, 23]), ([18, 24], [18, 24]), ([25, 21, 0, 1, 2, 3, 4, 5, 6, 7, 8, 9, 10, 11, 12, 13, 14, 15, 16, 17, 18, 19, 20, 21, 22, 23, 24, 25], [25])])
def leafB10 : List Nat := [0, 1, 3, 7, 15, 31, 63, 127, 255, 511, 1023, 2047, 4095, 8191, 16383, 32767, 65535, 131071, 262143, 524287, 1048575, 2097151, 524287, 4718591, 16777215, 33554431, 67108863]
theorem leaf_tab10 : rtab .any (opsOf Tryz.f21 10) = leafT10 := by kernel_rfl
theorem leaf_bits10 : waitsOk leafT10.2 leafB10 = true := by kernel_rfl
def pl27 (k : Nat) : Array Bool := ((List.range 27).map fun i => decide (i < k)).toArray
def PiHeld (w : World) (nm d : Bs) (cs : Array Value) (v : World) : Prop := Below w.heap.size w v ∧ Glob v ∧ Blk v w.heap.size cs 25 ∧ cs[2]? = some (.string (M nm)) ∧ cs[5]? = some (.string (M d))
theorem pi_step {w v v' : World} {nm d : Bs} {cs : Array Value} (h : PiHeld w nm d cs v) (hq : Below v.heap.size v v') : PiHeld w nm d cs v' :=
 ⟨h.1.trans (hq.mono h.1.size), h.2.1.below hq, h.2.2.1.below hq h.2.2.1.lt, h.2.2.2⟩
theorem pi_same {w v v' : World} {nm d : Bs} {cs : Array Value} (h : PiHeld w nm d cs v) (hq : v = v') : PiHeld w nm d cs v' := hq ▸ h
theorem pi_drew {w v : World} {nm d : Bs} {cs : Array Value} (h : PiHeld w nm d cs v) : PiHeld w nm d cs v.drew := pi_step h (Below.refl _ _).drew
theorem pi_held {w v : World} {nm d : Bs} {cs : Array Value} (h : PiHeld w nm d cs v) : v.cell? ⟨w.heap.size, 2, none⟩ = some (.string (M nm)) ∧ v.cell? ⟨w.heap.size, 5, none⟩ = some (.string (M d)) :=
 ⟨(h.2.2.1.cell 2).trans h.2.2.2.1, (h.2.2.1.cell 5).trans h.2.2.2.2⟩
theorem lower_is {nm : Bs} (h : (Lib.toLowerD nm == [120, 109, 108]) = true) : Lib.toLowerD nm = [120, 109, 108] := eq_of_beq h
theorem lower_not {nm : Bs} (h : (Lib.toLowerD nm == [120, 109, 108]) = false) : ¬ Lib.toLowerD nm = [120, 109, 108] := by simpa using h
theorem trim_not {d : Bs} (h : (Lib.trimLeftS d [32, 9, 10, 13] == d) = false) : ¬ Lib.trimLeftS d [32, 9, 10, 13] = d := by simpa using h
set_option maxRecDepth 100000 in
set_option maxHeartbeats 4000000 in
theorem leaf_pi_ok {nm d : Bs} {A B : Option Addr} {c e : Nat} (w : World) (hG : Glob w) (hnm : nm.length ≤ 1000000) (hd : d.length ≤ 1000000) :
  Calls Tryz.prog 21 #[.agg #[.int .i64 3, .string (M []), .string (M nm), .slice A ([] : List At).length c, .slice B ([] : List Tr).length e, .string (M d)]] w fun x w' => x = .returned (.bool (leafOk (.mk 3 [] nm [] [] d))) ∧ Below w.heap.size w w' := by
 have hb0 : Below w.heap.size w (w.alloc (.cells #[.int .i64 3, .string (M []), .string (M nm), .slice A ([] : List At).length c, .slice B ([] : List Tr).length e, .string (M d)] 25)) := (Below.refl _ _).alloc (Nat.le_refl _) _
 have hbx := Blk.new w #[.int .i64 3, .string (M []), .string (M nm), .slice A ([] : List At).length c, .slice B ([] : List Tr).length e, .string (M d)] 25
 have x1 := hbx.cell 1
 have x3 := hbx.cell 3
 have x4 := hbx.cell 4
 have x5 := hbx.cell 5
 obtain ⟨tb, htb⟩ : ∃ tb, tb = textOk d := ⟨_, rfl⟩
 obtain ⟨pb, hpb⟩ : ∃ pb, pb = U.plainB nm := ⟨_, rfl⟩
 obtain ⟨lb, hlb⟩ : ∃ lb, (Lib.toLowerD nm == [120, 109, 108]) = lb := ⟨_, rfl⟩
 obtain ⟨rb, hrb⟩ : ∃ rb, rb = d.contains 13 := ⟨_, rfl⟩
 obtain ⟨ib, hib⟩ : ∃ ib, ib = (Lib.index d [63, 62] == -1) := ⟨_, rfl⟩
 obtain ⟨sb, hsb⟩ : ∃ sb, (Lib.trimLeftS d [32, 9, 10, 13] == d) = sb := ⟨_, rfl⟩
 obtain ⟨bb, hbb⟩ : ∃ bb, bb = leafOk (.mk 3 [] nm [] [] d) := ⟨_, rfl⟩
 rw [← hbb]
 have HBB := Lib.hid (show bb = (tb && (pb && !lb && !rb && ib && sb)) by
  rw [hbb, leafOk_eq, htb, hpb, ← hlb, hrb, hib, ← hsb]
  rfl)
 have HP : ∀ W, Glob W → Calls Tryz.prog 22 #[.string (M nm)] W fun e w' => e = .returned (.bool pb) ∧ Below W.heap.size W w' := fun W hW => by
  rw [hpb]; exact plain_calls nm W hW (Nat.lt_of_le_of_lt hnm (by decide))
 have HI : ∀ W, Glob W → Calls Tryz.prog 41 #[.string (M d), .string (M [63, 62])] W fun e w' => e = .returned (.bool (!ib)) ∧ W = w' := fun W hW => by
  rw [hib]; exact contains2 d [63, 62] W hW (by omega)
 have HLW : ∀ W, Glob W → Calls Tryz.prog 42 #[.string (M nm)] W fun e w' => e = .returned (.string (M (Lib.toLowerD nm))) ∧ Below W.heap.size W w' := fun W hW => lower_calls (M nm) W hW (Nat.lt_of_le_of_lt hnm (by decide))
 have HSK : ∀ W, Calls Tryz.prog 43 #[.string (M d)] W fun e w' => e = .returned (.string (M (Lib.trimLeftS d [32, 9, 10, 13]))) ∧ Below W.heap.size W w' := fun W => skip_calls (M d) W
 have HC := Lib.hid (And.intro HP (And.intro HI (And.intro HLW HSK)))
 have HRB := Lib.hid hrb
 have HLB := Lib.hid hlb
 have HSB := Lib.hid hsb
 have hba : Below (w.heap.size + 1) (w.alloc (.cells #[.int .i64 3, .string (M []), .string (M nm), .slice A ([] : List At).length c, .slice B ([] : List Tr).length e, .string (M d)] 25)) ((w.alloc (.cells #[.int .i64 3, .string (M []), .string (M nm), .slice A ([] : List At).length c, .slice B ([] : List Tr).length e, .string (M d)] 25)).alloc (.cells #[.string (M d)] 9)) := (Below.refl _ _).alloc (by rw [World.size_alloc]; omega) _
 have HG := Lib.hid (hG.below hb0)
 have hT := text_calls (w.heap.size + 1) 1 [d] ((w.alloc (.cells #[.int .i64 3, .string (M []), .string (M nm), .slice A ([] : List At).length c, .slice B ([] : List Tr).length e, .string (M d)] 25)).alloc (.cells #[.string (M d)] 9)) (HG.out.below (by rw [World.size_alloc]; exact hba)) (by
  have := row_new (w.alloc (.cells #[.int .i64 3, .string (M []), .string (M nm), .slice A ([] : List At).length c, .slice B ([] : List Tr).length e, .string (M d)] 25)) [d] (cs := #[.string (M d)]) rfl
  rw [World.size_alloc] at this
  exact this) (by rw [World.size_alloc, World.size_alloc]; omega) (by show 1 ≤ 1000; omega) (fun s hs => by rw [List.mem_singleton.1 hs]; omega)
 have htb2 : [d].all textOk = tb := by rw [htb]; simp
 rw [htb2] at hT
 have HT := Lib.hid hT
 have HA := Lib.hid hba
 have HB := Lib.hid hb0
 have HX := Lib.hid hbx
 clear hT hba htb htb2 hb0 hbx hG hbb hpb hlb hrb hib hsb HP HI HLW HSK hnm hd
 go_enter Tryz.func21, Tryz.ntmps21
 go_wp2_with fail
 refine HT.out.mono ?_
 rintro x W1 ⟨rfl, hw1⟩
 have hall : Below (w.heap.size + 1) (w.alloc (.cells #[.int .i64 3, .string (M []), .string (M nm), .slice A ([] : List At).length c, .slice B ([] : List Tr).length e, .string (M d)] 25)) W1 := HA.out.trans (hw1.mono (by rw [World.size_alloc, World.size_alloc]; omega))
 have HB1 := Lib.hid (HB.out.trans (hall.mono (by omega)))
 have HG1 := Lib.hid (HG.out.below (by rw [World.size_alloc]; exact hall))
 have hX := HX.out.below hall (by omega)
 have y0 := hX.cell 0
 have y2 := hX.cell 2
 have y5 := hX.cell 5
 have KX0 := Lib.hid (show PiHeld w nm d #[.int .i64 3, .string (M []), .string (M nm), .slice A ([] : List At).length c, .slice B ([] : List Tr).length e, .string (M d)] W1 from ⟨HB1.out, HG1.out, hX, rfl, rfl⟩)
 clear hw1 hall hX HX HT HA x1 x3 x4 x5
 cases tb with
 | false =>
   obtain rfl : bb = false := HBB.out
   go_wp2
   go_ret
   exact ⟨rfl, HB1.out⟩
 | true =>
   have hct := contains1 d 13 W1
   rw [← HRB.out] at hct
   have HR := Lib.hid hct
   clear hct HRB HB1 HG1
   go_wp2_with fail
   refine HR.out.mono ?_
   rintro x W2 ⟨rfl, rfl⟩
   clear HR
   go_upto_region 10 with (fail)
   refine start_ (n := 27) (S := fun w' => w'.cell? ⟨w.heap.size, 2, none⟩ = some (.string (M nm)) ∧ w'.cell? ⟨w.heap.size, 5, none⟩ = some (.string (M d))) (ds := []) (pl27 0) (by kernel_rfl) rfl rfl ⟨y2, y5⟩ (fun hHeld => ?_)
   refine with_tabW leaf_tab10 leaf_bits10 (fun HT_ HW_ => ?_)
   have KX := Lib.hid (pi_drew KX0.out)
   clear KX0 y0 y2 y5
   generalize World.drew _ = v0 at KX hHeld ⊢
   refine pure_ (i := 0) (N := some 57) (v := .pointer (some ⟨w.heap.size, 2, none⟩)) (pl27 1) rfl rfl (any_of HT_.out (by kernel_rfl)) (fun _ _ _ h => h) (Or.inl ⟨by rfl, fun w' => by go_simp⟩) rfl ?_
   simp only [Act.put, List.setIfInBounds_toArray, List.set_cons_zero, List.set_cons_succ]
   refine take_ (i := 1) (N := some 58) (v := .string (M nm)) (pl27 2) rfl rfl (take_ofW HT_.out HW_.out (by kernel_rfl)) (fun _ _ _ h => h) (Or.inl ⟨by rfl, fun w' hS => by obtain ⟨hs1, hs2⟩ := hS; go_simp⟩) hHeld rfl ?_
   simp only [Act.put, List.setIfInBounds_toArray, List.set_cons_zero, List.set_cons_succ]
   refine one_ (i := 2) (N := some 59) (pl27 3) rfl rfl (one_of HT_.out (by kernel_rfl)) (by decide) (fun K hK => ?_)
   refine goes_ Tryz.func22 (by kernel_rfl) rfl #[.string (M nm)] (by rfl) rfl rfl (by simp only [List.map_toArray, List.map_cons, List.map_nil]; rfl) ?_
   refine (HC.out.1 _ KX.out.2.1).mono ?_
   rintro e V2 ⟨rfl, hq⟩
   have KX := Lib.hid (pi_step KX.out hq)
   refine ⟨_, rfl, ?_⟩
   refine hK.out _ _ (pi_held KX.out) (fun hHeld => ?_)
   clear hK K hq
   simp only [Act.put, List.setIfInBounds_toArray, List.set_cons_zero, List.set_cons_succ]
   refine pure_ (i := 3) (N := some 60) (v := .bool pb) (pl27 4) rfl rfl (any_of HT_.out (by kernel_rfl)) (fun _ _ _ h => h) (Or.inl ⟨by rfl, fun w' => by go_simp⟩) rfl ?_
   simp only [Act.put, List.setIfInBounds_toArray, List.set_cons_zero, List.set_cons_succ]
   cases pb with
   | false =>
     obtain rfl : bb = false := HBB.out
     refine pure_ (i := 4) (N := some 61) (v := undef) (pl27 5) rfl rfl (any_of HT_.out (by kernel_rfl)) (fun _ _ _ h => h) (Or.inr ⟨by rfl, rfl⟩) rfl ?_
     simp only [Act.put, List.setIfInBounds_toArray, List.set_cons_zero, List.set_cons_succ]
     refine pure_ (i := 5) (N := some 62) (v := undef) (pl27 6) rfl rfl (any_of HT_.out (by kernel_rfl)) (fun _ _ _ h => h) (Or.inr ⟨by rfl, rfl⟩) rfl ?_
     simp only [Act.put, List.setIfInBounds_toArray, List.set_cons_zero, List.set_cons_succ]
     refine pure_ (i := 6) (N := some 63) (v := undef) (pl27 7) rfl rfl (any_of HT_.out (by kernel_rfl)) (fun _ _ _ h => h) (Or.inr ⟨by rfl, rfl⟩) rfl ?_
     simp only [Act.put, List.setIfInBounds_toArray, List.set_cons_zero, List.set_cons_succ]
     refine pure_ (i := 7) (N := some 64) (v := undef) (pl27 8) rfl rfl (any_of HT_.out (by kernel_rfl)) (fun _ _ _ h => h) (Or.inr ⟨by rfl, rfl⟩) rfl ?_
     simp only [Act.put, List.setIfInBounds_toArray, List.set_cons_zero, List.set_cons_succ]
     refine pure_ (i := 8) (N := some 65) (v := .bool false) (pl27 9) rfl rfl (any_of HT_.out (by kernel_rfl)) (fun _ _ _ h => h) (Or.inl ⟨by rfl, fun w' => by go_simp⟩) rfl ?_
     simp only [Act.put, List.setIfInBounds_toArray, List.set_cons_zero, List.set_cons_succ]
     refine pure_ (i := 9) (N := some 66) (v := .bool false) (pl27 10) rfl rfl (any_of HT_.out (by kernel_rfl)) (fun _ _ _ h => h) (Or.inl ⟨by rfl, fun w' => by go_simp⟩) rfl ?_
     simp only [Act.put, List.setIfInBounds_toArray, List.set_cons_zero, List.set_cons_succ]
     refine pure_ (i := 10) (N := some 67) (v := undef) (pl27 11) rfl rfl (any_of HT_.out (by kernel_rfl)) (fun _ _ _ h => h) (Or.inr ⟨by rfl, rfl⟩) rfl ?_
     simp only [Act.put, List.setIfInBounds_toArray, List.set_cons_zero, List.set_cons_succ]
     refine pure_ (i := 11) (N := some 68) (v := .bool false) (pl27 12) rfl rfl (any_of HT_.out (by kernel_rfl)) (fun _ _ _ h => h) (Or.inl ⟨by rfl, fun w' => by go_simp⟩) rfl ?_
     simp only [Act.put, List.setIfInBounds_toArray, List.set_cons_zero, List.set_cons_succ]
     refine pure_ (i := 12) (N := some 69) (v := .bool false) (pl27 13) rfl rfl (any_of HT_.out (by kernel_rfl)) (fun _ _ _ h => h) (Or.inl ⟨by rfl, fun w' => by go_simp⟩) rfl ?_
     simp only [Act.put, List.setIfInBounds_toArray, List.set_cons_zero, List.set_cons_succ]
     refine pure_ (i := 13) (N := some 70) (v := undef) (pl27 14) rfl rfl (any_of HT_.out (by kernel_rfl)) (fun _ _ _ h => h) (Or.inr ⟨by rfl, rfl⟩) rfl ?_
     simp only [Act.put, List.setIfInBounds_toArray, List.set_cons_zero, List.set_cons_succ]
     refine pure_ (i := 14) (N := some 71) (v := undef) (pl27 15) rfl rfl (any_of HT_.out (by kernel_rfl)) (fun _ _ _ h => h) (Or.inr ⟨by rfl, rfl⟩) rfl ?_
     simp only [Act.put, List.setIfInBounds_toArray, List.set_cons_zero, List.set_cons_succ]
     refine pure_ (i := 15) (N := some 72) (v := undef) (pl27 16) rfl rfl (any_of HT_.out (by kernel_rfl)) (fun _ _ _ h => h) (Or.inr ⟨by rfl, rfl⟩) rfl ?_
     simp only [Act.put, List.setIfInBounds_toArray, List.set_cons_zero, List.set_cons_succ]
     refine pure_ (i := 16) (N := some 73) (v := undef) (pl27 17) rfl rfl (any_of HT_.out (by kernel_rfl)) (fun _ _ _ h => h) (Or.inr ⟨by rfl, rfl⟩) rfl ?_
     simp only [Act.put, List.setIfInBounds_toArray, List.set_cons_zero, List.set_cons_succ]
     refine pure_ (i := 17) (N := some 74) (v := .bool false) (pl27 18) rfl rfl (any_of HT_.out (by kernel_rfl)) (fun _ _ _ h => h) (Or.inl ⟨by rfl, fun w' => by go_simp⟩) rfl ?_
     simp only [Act.put, List.setIfInBounds_toArray, List.set_cons_zero, List.set_cons_succ]
     refine pure_ (i := 18) (N := some 75) (v := .bool false) (pl27 19) rfl rfl (any_of HT_.out (by kernel_rfl)) (fun _ _ _ h => h) (Or.inl ⟨by rfl, fun w' => by go_simp⟩) rfl ?_
     simp only [Act.put, List.setIfInBounds_toArray, List.set_cons_zero, List.set_cons_succ]
     refine pure_ (i := 19) (N := some 76) (v := undef) (pl27 20) rfl rfl (any_of HT_.out (by kernel_rfl)) (fun _ _ _ h => h) (Or.inr ⟨by rfl, rfl⟩) rfl ?_
     simp only [Act.put, List.setIfInBounds_toArray, List.set_cons_zero, List.set_cons_succ]
     refine pure_ (i := 20) (N := some 77) (v := undef) (pl27 21) rfl rfl (any_of HT_.out (by kernel_rfl)) (fun _ _ _ h => h) (Or.inr ⟨by rfl, rfl⟩) rfl ?_
     simp only [Act.put, List.setIfInBounds_toArray, List.set_cons_zero, List.set_cons_succ]
     refine pure_ (i := 22) (N := some 79) (v := undef) #[true, true, true, true, true, true, true, true, true, true, true, true, true, true, true, true, true, true, true, true, true, false, true, false, false, false, false] rfl rfl (any_of HT_.out (by kernel_rfl)) (fun _ _ _ h => h) (Or.inr ⟨by rfl, rfl⟩) rfl ?_
     simp only [Act.put, List.setIfInBounds_toArray, List.set_cons_zero, List.set_cons_succ]
     refine pure_ (i := 23) (N := some 80) (v := undef) #[true, true, true, true, true, true, true, true, true, true, true, true, true, true, true, true, true, true, true, true, true, false, true, true, false, false, false] rfl rfl (any_of HT_.out (by kernel_rfl)) (fun _ _ _ h => h) (Or.inr ⟨by rfl, rfl⟩) rfl ?_
     simp only [Act.put, List.setIfInBounds_toArray, List.set_cons_zero, List.set_cons_succ]
     refine pure_ (i := 21) (N := some 78) (v := undef) (pl27 24) rfl rfl (any_of HT_.out (by kernel_rfl)) (fun _ _ _ h => h) (Or.inr ⟨by rfl, rfl⟩) rfl ?_
     simp only [Act.put, List.setIfInBounds_toArray, List.set_cons_zero, List.set_cons_succ]
     refine pure_ (i := 24) (N := some 81) (v := undef) (pl27 25) rfl rfl (any_of HT_.out (by kernel_rfl)) (fun _ _ _ h => h) (Or.inr ⟨by rfl, rfl⟩) rfl ?_
     simp only [Act.put, List.setIfInBounds_toArray, List.set_cons_zero, List.set_cons_succ]
     refine pure_ (i := 25) (N := some 82) (v := .bool false) (pl27 26) rfl rfl (any_of HT_.out (by kernel_rfl)) (fun _ _ _ h => h) (Or.inl ⟨by rfl, fun w' => by go_simp⟩) rfl ?_
     simp only [Act.put, List.setIfInBounds_toArray, List.set_cons_zero, List.set_cons_succ]
     refine pure_ (i := 26) (N := some 2) (v := .bool false) (pl27 27) rfl rfl (any_of HT_.out (by kernel_rfl)) (fun _ _ _ h => h) (Or.inl ⟨by rfl, fun w' => by go_simp⟩) rfl ?_
     simp only [Act.put, List.setIfInBounds_toArray, List.set_cons_zero, List.set_cons_succ]
     refine done_ (done_of HT_.out (by kernel_rfl)) ?_
     go_wp2
     go_ret
     exact ⟨rfl, KX.out.1⟩
   | true =>
     refine pure_ (i := 4) (N := some 61) (v := .pointer (some ⟨w.heap.size, 2, none⟩)) (pl27 5) rfl rfl (any_of HT_.out (by kernel_rfl)) (fun _ _ _ h => h) (Or.inl ⟨by rfl, fun w' => by go_simp⟩) rfl ?_
     simp only [Act.put, List.setIfInBounds_toArray, List.set_cons_zero, List.set_cons_succ]
     refine take_ (i := 5) (N := some 62) (v := .string (M nm)) (pl27 6) rfl rfl (take_ofW HT_.out HW_.out (by kernel_rfl)) (fun _ _ _ h => h) (Or.inl ⟨by rfl, fun w' hS => by obtain ⟨hs1, hs2⟩ := hS; go_simp⟩) hHeld rfl ?_
     simp only [Act.put, List.setIfInBounds_toArray, List.set_cons_zero, List.set_cons_succ]
     refine one_ (i := 6) (N := some 63) (pl27 7) rfl rfl (one_of HT_.out (by kernel_rfl)) (by decide) (fun K hK => ?_)
     refine goes_ Tryz.func42 (by kernel_rfl) rfl #[.string (M nm)] (by rfl) rfl rfl (by simp only [List.map_toArray, List.map_cons, List.map_nil]; rfl) ?_
     refine (HC.out.2.2.1 _ KX.out.2.1).mono ?_
     rintro e V6 ⟨rfl, hq⟩
     have KX := Lib.hid (pi_step KX.out hq)
     refine ⟨_, rfl, ?_⟩
     refine hK.out _ _ (pi_held KX.out) (fun hHeld => ?_)
     clear hK K hq
     simp only [Act.put, List.setIfInBounds_toArray, List.set_cons_zero, List.set_cons_succ]
     cases lb with
     | true =>
       obtain rfl : bb = false := HBB.out
       have hlw := lower_is HLB.out
       rw [hlw]
       clear hlw
       refine pure_ (i := 7) (N := some 64) (v := .bool false) (pl27 8) rfl rfl (any_of HT_.out (by kernel_rfl)) (fun _ _ _ h => h) (Or.inl ⟨by rfl, fun w' => by go_simp⟩) rfl ?_
       simp only [Act.put, List.setIfInBounds_toArray, List.set_cons_zero, List.set_cons_succ]
       refine pure_ (i := 8) (N := some 65) (v := .bool false) (pl27 9) rfl rfl (any_of HT_.out (by kernel_rfl)) (fun _ _ _ h => h) (Or.inl ⟨by rfl, fun w' => by go_simp⟩) rfl ?_
       simp only [Act.put, List.setIfInBounds_toArray, List.set_cons_zero, List.set_cons_succ]
       refine pure_ (i := 9) (N := some 66) (v := .bool false) (pl27 10) rfl rfl (any_of HT_.out (by kernel_rfl)) (fun _ _ _ h => h) (Or.inl ⟨by rfl, fun w' => by go_simp⟩) rfl ?_
       simp only [Act.put, List.setIfInBounds_toArray, List.set_cons_zero, List.set_cons_succ]
       refine pure_ (i := 10) (N := some 67) (v := undef) (pl27 11) rfl rfl (any_of HT_.out (by kernel_rfl)) (fun _ _ _ h => h) (Or.inr ⟨by rfl, rfl⟩) rfl ?_
       simp only [Act.put, List.setIfInBounds_toArray, List.set_cons_zero, List.set_cons_succ]
       refine pure_ (i := 11) (N := some 68) (v := .bool false) (pl27 12) rfl rfl (any_of HT_.out (by kernel_rfl)) (fun _ _ _ h => h) (Or.inl ⟨by rfl, fun w' => by go_simp⟩) rfl ?_
       simp only [Act.put, List.setIfInBounds_toArray, List.set_cons_zero, List.set_cons_succ]
       refine pure_ (i := 12) (N := some 69) (v := .bool false) (pl27 13) rfl rfl (any_of HT_.out (by kernel_rfl)) (fun _ _ _ h => h) (Or.inl ⟨by rfl, fun w' => by go_simp⟩) rfl ?_
       simp only [Act.put, List.setIfInBounds_toArray, List.set_cons_zero, List.set_cons_succ]
       refine pure_ (i := 13) (N := some 70) (v := undef) (pl27 14) rfl rfl (any_of HT_.out (by kernel_rfl)) (fun _ _ _ h => h) (Or.inr ⟨by rfl, rfl⟩) rfl ?_
       simp only [Act.put, List.setIfInBounds_toArray, List.set_cons_zero, List.set_cons_succ]
       refine pure_ (i := 14) (N := some 71) (v := undef) (pl27 15) rfl rfl (any_of HT_.out (by kernel_rfl)) (fun _ _ _ h => h) (Or.inr ⟨by rfl, rfl⟩) rfl ?_
       simp only [Act.put, List.setIfInBounds_toArray, List.set_cons_zero, List.set_cons_succ]
       refine pure_ (i := 15) (N := some 72) (v := undef) (pl27 16) rfl rfl (any_of HT_.out (by kernel_rfl)) (fun _ _ _ h => h) (Or.inr ⟨by rfl, rfl⟩) rfl ?_
       simp only [Act.put, List.setIfInBounds_toArray, List.set_cons_zero, List.set_cons_succ]
       refine pure_ (i := 16) (N := some 73) (v := undef) (pl27 17) rfl rfl (any_of HT_.out (by kernel_rfl)) (fun _ _ _ h => h) (Or.inr ⟨by rfl, rfl⟩) rfl ?_
       simp only [Act.put, List.setIfInBounds_toArray, List.set_cons_zero, List.set_cons_succ]
       refine pure_ (i := 17) (N := some 74) (v := .bool false) (pl27 18) rfl rfl (any_of HT_.out (by kernel_rfl)) (fun _ _ _ h => h) (Or.inl ⟨by rfl, fun w' => by go_simp⟩) rfl ?_
       simp only [Act.put, List.setIfInBounds_toArray, List.set_cons_zero, List.set_cons_succ]
       refine pure_ (i := 18) (N := some 75) (v := .bool false) (pl27 19) rfl rfl (any_of HT_.out (by kernel_rfl)) (fun _ _ _ h => h) (Or.inl ⟨by rfl, fun w' => by go_simp⟩) rfl ?_
       simp only [Act.put, List.setIfInBounds_toArray, List.set_cons_zero, List.set_cons_succ]
       refine pure_ (i := 19) (N := some 76) (v := undef) (pl27 20) rfl rfl (any_of HT_.out (by kernel_rfl)) (fun _ _ _ h => h) (Or.inr ⟨by rfl, rfl⟩) rfl ?_
       simp only [Act.put, List.setIfInBounds_toArray, List.set_cons_zero, List.set_cons_succ]
       refine pure_ (i := 20) (N := some 77) (v := undef) (pl27 21) rfl rfl (any_of HT_.out (by kernel_rfl)) (fun _ _ _ h => h) (Or.inr ⟨by rfl, rfl⟩) rfl ?_
       simp only [Act.put, List.setIfInBounds_toArray, List.set_cons_zero, List.set_cons_succ]
       refine pure_ (i := 22) (N := some 79) (v := undef) #[true, true, true, true, true, true, true, true, true, true, true, true, true, true, true, true, true, true, true, true, true, false, true, false, false, false, false] rfl rfl (any_of HT_.out (by kernel_rfl)) (fun _ _ _ h => h) (Or.inr ⟨by rfl, rfl⟩) rfl ?_
       simp only [Act.put, List.setIfInBounds_toArray, List.set_cons_zero, List.set_cons_succ]
       refine pure_ (i := 23) (N := some 80) (v := undef) #[true, true, true, true, true, true, true, true, true, true, true, true, true, true, true, true, true, true, true, true, true, false, true, true, false, false, false] rfl rfl (any_of HT_.out (by kernel_rfl)) (fun _ _ _ h => h) (Or.inr ⟨by rfl, rfl⟩) rfl ?_
       simp only [Act.put, List.setIfInBounds_toArray, List.set_cons_zero, List.set_cons_succ]
       refine pure_ (i := 21) (N := some 78) (v := undef) (pl27 24) rfl rfl (any_of HT_.out (by kernel_rfl)) (fun _ _ _ h => h) (Or.inr ⟨by rfl, rfl⟩) rfl ?_
       simp only [Act.put, List.setIfInBounds_toArray, List.set_cons_zero, List.set_cons_succ]
       refine pure_ (i := 24) (N := some 81) (v := undef) (pl27 25) rfl rfl (any_of HT_.out (by kernel_rfl)) (fun _ _ _ h => h) (Or.inr ⟨by rfl, rfl⟩) rfl ?_
       simp only [Act.put, List.setIfInBounds_toArray, List.set_cons_zero, List.set_cons_succ]
       refine pure_ (i := 25) (N := some 82) (v := .bool false) (pl27 26) rfl rfl (any_of HT_.out (by kernel_rfl)) (fun _ _ _ h => h) (Or.inl ⟨by rfl, fun w' => by go_simp⟩) rfl ?_
       simp only [Act.put, List.setIfInBounds_toArray, List.set_cons_zero, List.set_cons_succ]
       refine pure_ (i := 26) (N := some 2) (v := .bool false) (pl27 27) rfl rfl (any_of HT_.out (by kernel_rfl)) (fun _ _ _ h => h) (Or.inl ⟨by rfl, fun w' => by go_simp⟩) rfl ?_
       simp only [Act.put, List.setIfInBounds_toArray, List.set_cons_zero, List.set_cons_succ]
       refine done_ (done_of HT_.out (by kernel_rfl)) ?_
       go_wp2
       go_ret
       exact ⟨rfl, KX.out.1⟩
     | false =>
       have hlw := lower_not HLB.out
       generalize Lib.toLowerD nm = lnm at hlw ⊢
       refine pure_ (i := 7) (N := some 64) (v := .bool true) (pl27 8) rfl rfl (any_of HT_.out (by kernel_rfl)) (fun _ _ _ h => h) (Or.inl ⟨by rfl, fun w' => by go_simp⟩) rfl ?_
       simp only [Act.put, List.setIfInBounds_toArray, List.set_cons_zero, List.set_cons_succ]
       clear hlw
       refine pure_ (i := 8) (N := some 65) (v := .bool true) (pl27 9) rfl rfl (any_of HT_.out (by kernel_rfl)) (fun _ _ _ h => h) (Or.inl ⟨by rfl, fun w' => by go_simp⟩) rfl ?_
       simp only [Act.put, List.setIfInBounds_toArray, List.set_cons_zero, List.set_cons_succ]
       refine pure_ (i := 9) (N := some 66) (v := .bool true) (pl27 10) rfl rfl (any_of HT_.out (by kernel_rfl)) (fun _ _ _ h => h) (Or.inl ⟨by rfl, fun w' => by go_simp⟩) rfl ?_
       simp only [Act.put, List.setIfInBounds_toArray, List.set_cons_zero, List.set_cons_succ]
       refine pure_ (i := 10) (N := some 67) (v := .bool (!rb)) (pl27 11) rfl rfl (any_of HT_.out (by kernel_rfl)) (fun _ _ _ h => h) (Or.inl ⟨by rfl, fun w' => by go_simp⟩) rfl ?_
       simp only [Act.put, List.setIfInBounds_toArray, List.set_cons_zero, List.set_cons_succ]
       cases rb with
       | true =>
         obtain rfl : bb = false := HBB.out
         refine pure_ (i := 11) (N := some 68) (v := .bool false) (pl27 12) rfl rfl (any_of HT_.out (by kernel_rfl)) (fun _ _ _ h => h) (Or.inl ⟨by rfl, fun w' => by go_simp⟩) rfl ?_
         simp only [Act.put, List.setIfInBounds_toArray, List.set_cons_zero, List.set_cons_succ]
         refine pure_ (i := 12) (N := some 69) (v := .bool false) (pl27 13) rfl rfl (any_of HT_.out (by kernel_rfl)) (fun _ _ _ h => h) (Or.inl ⟨by rfl, fun w' => by go_simp⟩) rfl ?_
         simp only [Act.put, List.setIfInBounds_toArray, List.set_cons_zero, List.set_cons_succ]
         refine pure_ (i := 13) (N := some 70) (v := undef) (pl27 14) rfl rfl (any_of HT_.out (by kernel_rfl)) (fun _ _ _ h => h) (Or.inr ⟨by rfl, rfl⟩) rfl ?_
         simp only [Act.put, List.setIfInBounds_toArray, List.set_cons_zero, List.set_cons_succ]
         refine pure_ (i := 14) (N := some 71) (v := undef) (pl27 15) rfl rfl (any_of HT_.out (by kernel_rfl)) (fun _ _ _ h => h) (Or.inr ⟨by rfl, rfl⟩) rfl ?_
         simp only [Act.put, List.setIfInBounds_toArray, List.set_cons_zero, List.set_cons_succ]
         refine pure_ (i := 15) (N := some 72) (v := undef) (pl27 16) rfl rfl (any_of HT_.out (by kernel_rfl)) (fun _ _ _ h => h) (Or.inr ⟨by rfl, rfl⟩) rfl ?_
         simp only [Act.put, List.setIfInBounds_toArray, List.set_cons_zero, List.set_cons_succ]
         refine pure_ (i := 16) (N := some 73) (v := undef) (pl27 17) rfl rfl (any_of HT_.out (by kernel_rfl)) (fun _ _ _ h => h) (Or.inr ⟨by rfl, rfl⟩) rfl ?_
         simp only [Act.put, List.setIfInBounds_toArray, List.set_cons_zero, List.set_cons_succ]
         refine pure_ (i := 17) (N := some 74) (v := .bool false) (pl27 18) rfl rfl (any_of HT_.out (by kernel_rfl)) (fun _ _ _ h => h) (Or.inl ⟨by rfl, fun w' => by go_simp⟩) rfl ?_
         simp only [Act.put, List.setIfInBounds_toArray, List.set_cons_zero, List.set_cons_succ]
         refine pure_ (i := 18) (N := some 75) (v := .bool false) (pl27 19) rfl rfl (any_of HT_.out (by kernel_rfl)) (fun _ _ _ h => h) (Or.inl ⟨by rfl, fun w' => by go_simp⟩) rfl ?_
         simp only [Act.put, List.setIfInBounds_toArray, List.set_cons_zero, List.set_cons_succ]
         refine pure_ (i := 19) (N := some 76) (v := undef) (pl27 20) rfl rfl (any_of HT_.out (by kernel_rfl)) (fun _ _ _ h => h) (Or.inr ⟨by rfl, rfl⟩) rfl ?_
         simp only [Act.put, List.setIfInBounds_toArray, List.set_cons_zero, List.set_cons_succ]
         refine pure_ (i := 20) (N := some 77) (v := undef) (pl27 21) rfl rfl (any_of HT_.out (by kernel_rfl)) (fun _ _ _ h => h) (Or.inr ⟨by rfl, rfl⟩) rfl ?_
         simp only [Act.put, List.setIfInBounds_toArray, List.set_cons_zero, List.set_cons_succ]
         refine pure_ (i := 22) (N := some 79) (v := undef) #[true, true, true, true, true, true, true, true, true, true, true, true, true, true, true, true, true, true, true, true, true, false, true, false, false, false, false] rfl rfl (any_of HT_.out (by kernel_rfl)) (fun _ _ _ h => h) (Or.inr ⟨by rfl, rfl⟩) rfl ?_
         simp only [Act.put, List.setIfInBounds_toArray, List.set_cons_zero, List.set_cons_succ]
         refine pure_ (i := 23) (N := some 80) (v := undef) #[true, true, true, true, true, true, true, true, true, true, true, true, true, true, true, true, true, true, true, true, true, false, true, true, false, false, false] rfl rfl (any_of HT_.out (by kernel_rfl)) (fun _ _ _ h => h) (Or.inr ⟨by rfl, rfl⟩) rfl ?_
         simp only [Act.put, List.setIfInBounds_toArray, List.set_cons_zero, List.set_cons_succ]
         refine pure_ (i := 21) (N := some 78) (v := undef) (pl27 24) rfl rfl (any_of HT_.out (by kernel_rfl)) (fun _ _ _ h => h) (Or.inr ⟨by rfl, rfl⟩) rfl ?_
         simp only [Act.put, List.setIfInBounds_toArray, List.set_cons_zero, List.set_cons_succ]
         refine pure_ (i := 24) (N := some 81) (v := undef) (pl27 25) rfl rfl (any_of HT_.out (by kernel_rfl)) (fun _ _ _ h => h) (Or.inr ⟨by rfl, rfl⟩) rfl ?_
         simp only [Act.put, List.setIfInBounds_toArray, List.set_cons_zero, List.set_cons_succ]
         refine pure_ (i := 25) (N := some 82) (v := .bool false) (pl27 26) rfl rfl (any_of HT_.out (by kernel_rfl)) (fun _ _ _ h => h) (Or.inl ⟨by rfl, fun w' => by go_simp⟩) rfl ?_
         simp only [Act.put, List.setIfInBounds_toArray, List.set_cons_zero, List.set_cons_succ]
         refine pure_ (i := 26) (N := some 2) (v := .bool false) (pl27 27) rfl rfl (any_of HT_.out (by kernel_rfl)) (fun _ _ _ h => h) (Or.inl ⟨by rfl, fun w' => by go_simp⟩) rfl ?_
         simp only [Act.put, List.setIfInBounds_toArray, List.set_cons_zero, List.set_cons_succ]
         refine done_ (done_of HT_.out (by kernel_rfl)) ?_
         go_wp2
         go_ret
         exact ⟨rfl, KX.out.1⟩
       | false =>
         refine pure_ (i := 11) (N := some 68) (v := .bool true) (pl27 12) rfl rfl (any_of HT_.out (by kernel_rfl)) (fun _ _ _ h => h) (Or.inl ⟨by rfl, fun w' => by go_simp⟩) rfl ?_
         simp only [Act.put, List.setIfInBounds_toArray, List.set_cons_zero, List.set_cons_succ]
         refine pure_ (i := 12) (N := some 69) (v := .bool true) (pl27 13) rfl rfl (any_of HT_.out (by kernel_rfl)) (fun _ _ _ h => h) (Or.inl ⟨by rfl, fun w' => by go_simp⟩) rfl ?_
         simp only [Act.put, List.setIfInBounds_toArray, List.set_cons_zero, List.set_cons_succ]
         refine pure_ (i := 13) (N := some 70) (v := .pointer (some ⟨w.heap.size, 5, none⟩)) (pl27 14) rfl rfl (any_of HT_.out (by kernel_rfl)) (fun _ _ _ h => h) (Or.inl ⟨by rfl, fun w' => by go_simp⟩) rfl ?_
         simp only [Act.put, List.setIfInBounds_toArray, List.set_cons_zero, List.set_cons_succ]
         refine take_ (i := 14) (N := some 71) (v := .string (M d)) (pl27 15) rfl rfl (take_ofW HT_.out HW_.out (by kernel_rfl)) (fun _ _ _ h => h) (Or.inl ⟨by rfl, fun w' hS => by obtain ⟨hs1, hs2⟩ := hS; go_simp⟩) hHeld rfl ?_
         simp only [Act.put, List.setIfInBounds_toArray, List.set_cons_zero, List.set_cons_succ]
         refine one_ (i := 15) (N := some 72) (pl27 16) rfl rfl (one_of HT_.out (by kernel_rfl)) (by decide) (fun K hK => ?_)
         refine goes_ Tryz.func41 (by kernel_rfl) rfl #[.string (M d), .string (M [63, 62])] (by rfl) rfl rfl (by simp only [List.map_toArray, List.map_cons, List.map_nil]; rfl) ?_
         refine (HC.out.2.1 _ KX.out.2.1).mono ?_
         rintro e V15 ⟨rfl, hq⟩
         have KX := Lib.hid (pi_same KX.out hq)
         refine ⟨_, rfl, ?_⟩
         refine hK.out _ _ (pi_held KX.out) (fun hHeld => ?_)
         clear hK K hq
         simp only [Act.put, List.setIfInBounds_toArray, List.set_cons_zero, List.set_cons_succ]
         cases ib with
         | false =>
           obtain rfl : bb = false := HBB.out
           refine pure_ (i := 16) (N := some 73) (v := .bool false) (pl27 17) rfl rfl (any_of HT_.out (by kernel_rfl)) (fun _ _ _ h => h) (Or.inl ⟨by rfl, fun w' => by go_simp⟩) rfl ?_
           simp only [Act.put, List.setIfInBounds_toArray, List.set_cons_zero, List.set_cons_succ]
           refine pure_ (i := 17) (N := some 74) (v := .bool false) (pl27 18) rfl rfl (any_of HT_.out (by kernel_rfl)) (fun _ _ _ h => h) (Or.inl ⟨by rfl, fun w' => by go_simp⟩) rfl ?_
           simp only [Act.put, List.setIfInBounds_toArray, List.set_cons_zero, List.set_cons_succ]
           refine pure_ (i := 18) (N := some 75) (v := .bool false) (pl27 19) rfl rfl (any_of HT_.out (by kernel_rfl)) (fun _ _ _ h => h) (Or.inl ⟨by rfl, fun w' => by go_simp⟩) rfl ?_
           simp only [Act.put, List.setIfInBounds_toArray, List.set_cons_zero, List.set_cons_succ]
           refine pure_ (i := 19) (N := some 76) (v := undef) (pl27 20) rfl rfl (any_of HT_.out (by kernel_rfl)) (fun _ _ _ h => h) (Or.inr ⟨by rfl, rfl⟩) rfl ?_
           simp only [Act.put, List.setIfInBounds_toArray, List.set_cons_zero, List.set_cons_succ]
           refine pure_ (i := 20) (N := some 77) (v := undef) (pl27 21) rfl rfl (any_of HT_.out (by kernel_rfl)) (fun _ _ _ h => h) (Or.inr ⟨by rfl, rfl⟩) rfl ?_
           simp only [Act.put, List.setIfInBounds_toArray, List.set_cons_zero, List.set_cons_succ]
           refine pure_ (i := 22) (N := some 79) (v := undef) #[true, true, true, true, true, true, true, true, true, true, true, true, true, true, true, true, true, true, true, true, true, false, true, false, false, false, false] rfl rfl (any_of HT_.out (by kernel_rfl)) (fun _ _ _ h => h) (Or.inr ⟨by rfl, rfl⟩) rfl ?_
           simp only [Act.put, List.setIfInBounds_toArray, List.set_cons_zero, List.set_cons_succ]
           refine pure_ (i := 23) (N := some 80) (v := undef) #[true, true, true, true, true, true, true, true, true, true, true, true, true, true, true, true, true, true, true, true, true, false, true, true, false, false, false] rfl rfl (any_of HT_.out (by kernel_rfl)) (fun _ _ _ h => h) (Or.inr ⟨by rfl, rfl⟩) rfl ?_
           simp only [Act.put, List.setIfInBounds_toArray, List.set_cons_zero, List.set_cons_succ]
           refine pure_ (i := 21) (N := some 78) (v := undef) (pl27 24) rfl rfl (any_of HT_.out (by kernel_rfl)) (fun _ _ _ h => h) (Or.inr ⟨by rfl, rfl⟩) rfl ?_
           simp only [Act.put, List.setIfInBounds_toArray, List.set_cons_zero, List.set_cons_succ]
           refine pure_ (i := 24) (N := some 81) (v := undef) (pl27 25) rfl rfl (any_of HT_.out (by kernel_rfl)) (fun _ _ _ h => h) (Or.inr ⟨by rfl, rfl⟩) rfl ?_
           simp only [Act.put, List.setIfInBounds_toArray, List.set_cons_zero, List.set_cons_succ]
           refine pure_ (i := 25) (N := some 82) (v := .bool false) (pl27 26) rfl rfl (any_of HT_.out (by kernel_rfl)) (fun _ _ _ h => h) (Or.inl ⟨by rfl, fun w' => by go_simp⟩) rfl ?_
           simp only [Act.put, List.setIfInBounds_toArray, List.set_cons_zero, List.set_cons_succ]
           refine pure_ (i := 26) (N := some 2) (v := .bool false) (pl27 27) rfl rfl (any_of HT_.out (by kernel_rfl)) (fun _ _ _ h => h) (Or.inl ⟨by rfl, fun w' => by go_simp⟩) rfl ?_
           simp only [Act.put, List.setIfInBounds_toArray, List.set_cons_zero, List.set_cons_succ]
           refine done_ (done_of HT_.out (by kernel_rfl)) ?_
           go_wp2
           go_ret
           exact ⟨rfl, KX.out.1⟩
         | true =>
           refine pure_ (i := 16) (N := some 73) (v := .bool true) (pl27 17) rfl rfl (any_of HT_.out (by kernel_rfl)) (fun _ _ _ h => h) (Or.inl ⟨by rfl, fun w' => by go_simp⟩) rfl ?_
           simp only [Act.put, List.setIfInBounds_toArray, List.set_cons_zero, List.set_cons_succ]
           refine pure_ (i := 17) (N := some 74) (v := .bool true) (pl27 18) rfl rfl (any_of HT_.out (by kernel_rfl)) (fun _ _ _ h => h) (Or.inl ⟨by rfl, fun w' => by go_simp⟩) rfl ?_
           simp only [Act.put, List.setIfInBounds_toArray, List.set_cons_zero, List.set_cons_succ]
           refine pure_ (i := 18) (N := some 75) (v := .bool true) (pl27 19) rfl rfl (any_of HT_.out (by kernel_rfl)) (fun _ _ _ h => h) (Or.inl ⟨by rfl, fun w' => by go_simp⟩) rfl ?_
           simp only [Act.put, List.setIfInBounds_toArray, List.set_cons_zero, List.set_cons_succ]
           refine pure_ (i := 19) (N := some 76) (v := .pointer (some ⟨w.heap.size, 5, none⟩)) (pl27 20) rfl rfl (any_of HT_.out (by kernel_rfl)) (fun _ _ _ h => h) (Or.inl ⟨by rfl, fun w' => by go_simp⟩) rfl ?_
           simp only [Act.put, List.setIfInBounds_toArray, List.set_cons_zero, List.set_cons_succ]
           refine take_ (i := 20) (N := some 77) (v := .string (M d)) (pl27 21) rfl rfl (take_ofW HT_.out HW_.out (by kernel_rfl)) (fun _ _ _ h => h) (Or.inl ⟨by rfl, fun w' hS => by obtain ⟨hs1, hs2⟩ := hS; go_simp⟩) hHeld rfl ?_
           simp only [Act.put, List.setIfInBounds_toArray, List.set_cons_zero, List.set_cons_succ]
           refine pure_ (i := 22) (N := some 79) (v := .pointer (some ⟨w.heap.size, 5, none⟩)) #[true, true, true, true, true, true, true, true, true, true, true, true, true, true, true, true, true, true, true, true, true, false, true, false, false, false, false] rfl rfl (any_of HT_.out (by kernel_rfl)) (fun _ _ _ h => h) (Or.inl ⟨by rfl, fun w' => by go_simp⟩) rfl ?_
           simp only [Act.put, List.setIfInBounds_toArray, List.set_cons_zero, List.set_cons_succ]
           refine take_ (i := 23) (N := some 80) (v := .string (M d)) #[true, true, true, true, true, true, true, true, true, true, true, true, true, true, true, true, true, true, true, true, true, false, true, true, false, false, false] rfl rfl (take_ofW HT_.out HW_.out (by kernel_rfl)) (fun _ _ _ h => h) (Or.inl ⟨by rfl, fun w' hS => by obtain ⟨hs1, hs2⟩ := hS; go_simp⟩) hHeld rfl ?_
           simp only [Act.put, List.setIfInBounds_toArray, List.set_cons_zero, List.set_cons_succ]
           refine one_ (i := 21) (N := some 78) (pl27 24) rfl rfl (one_of HT_.out (by kernel_rfl)) (by decide) (fun K hK => ?_)
           refine goes_ Tryz.func43 (by kernel_rfl) rfl #[.string (M d)] (by rfl) rfl rfl (by simp only [List.map_toArray, List.map_cons, List.map_nil]; rfl) ?_
           refine (HC.out.2.2.2 _).mono ?_
           rintro e V21 ⟨rfl, hq⟩
           have KX := Lib.hid (pi_step KX.out hq)
           refine ⟨_, rfl, ?_⟩
           refine hK.out _ _ (pi_held KX.out) (fun hHeld => ?_)
           clear hK K hq
           simp only [Act.put, List.setIfInBounds_toArray, List.set_cons_zero, List.set_cons_succ]
           cases sb with
           | true =>
             obtain rfl : bb = true := HBB.out
             rw [eq_of_beq HSB.out]
             refine pure_ (i := 24) (N := some 81) (v := .bool true) (pl27 25) rfl rfl (any_of HT_.out (by kernel_rfl)) (fun _ _ _ h => h) (Or.inl ⟨by rfl, fun w' => by go_simp⟩) rfl ?_
             simp only [Act.put, List.setIfInBounds_toArray, List.set_cons_zero, List.set_cons_succ]
             refine pure_ (i := 25) (N := some 82) (v := .bool true) (pl27 26) rfl rfl (any_of HT_.out (by kernel_rfl)) (fun _ _ _ h => h) (Or.inl ⟨by rfl, fun w' => by go_simp⟩) rfl ?_
             simp only [Act.put, List.setIfInBounds_toArray, List.set_cons_zero, List.set_cons_succ]
             refine pure_ (i := 26) (N := some 2) (v := .bool true) (pl27 27) rfl rfl (any_of HT_.out (by kernel_rfl)) (fun _ _ _ h => h) (Or.inl ⟨by rfl, fun w' => by go_simp⟩) rfl ?_
             simp only [Act.put, List.setIfInBounds_toArray, List.set_cons_zero, List.set_cons_succ]
             refine done_ (done_of HT_.out (by kernel_rfl)) ?_
             go_wp2
             go_ret
             exact ⟨rfl, KX.out.1⟩
           | false =>
             obtain rfl : bb = false := HBB.out
             have hne := trim_not HSB.out
             generalize Lib.trimLeftS d [32, 9, 10, 13] = td at hne ⊢
             refine pure_ (i := 24) (N := some 81) (v := .bool false) (pl27 25) rfl rfl (any_of HT_.out (by kernel_rfl)) (fun _ _ _ h => h) (Or.inl ⟨by rfl, fun w' => by go_simp⟩) rfl ?_
             simp only [Act.put, List.setIfInBounds_toArray, List.set_cons_zero, List.set_cons_succ]
             refine pure_ (i := 25) (N := some 82) (v := .bool false) (pl27 26) rfl rfl (any_of HT_.out (by kernel_rfl)) (fun _ _ _ h => h) (Or.inl ⟨by rfl, fun w' => by go_simp⟩) rfl ?_
             simp only [Act.put, List.setIfInBounds_toArray, List.set_cons_zero, List.set_cons_succ]
             refine pure_ (i := 26) (N := some 2) (v := .bool false) (pl27 27) rfl rfl (any_of HT_.out (by kernel_rfl)) (fun _ _ _ h => h) (Or.inl ⟨by rfl, fun w' => by go_simp⟩) rfl ?_
             simp only [Act.put, List.setIfInBounds_toArray, List.set_cons_zero, List.set_cons_succ]
             refine done_ (done_of HT_.out (by kernel_rfl)) ?_
             go_wp2
             go_ret
             exact ⟨rfl, KX.out.1⟩
set_option maxRecDepth 100000 in
set_option maxHeartbeats 4000000 in
theorem leaf_pi : LeafPI := by
 intro sp nm d at_ kids A B c e w hG hsp hnm hd hat hkl
 by_cases hall : sp = [] ∧ at_ = [] ∧ kids = []
 ·obtain ⟨rfl, rfl, rfl⟩ := hall
  exact leaf_pi_ok w hG hnm hd
 ·have hb0 : Below w.heap.size w (w.alloc (.cells #[.int .i64 3, .string (M sp), .string (M nm), .slice A at_.length c, .slice B kids.length e, .string (M d)] 25)) := (Below.refl _ _).alloc (Nat.le_refl _) _
  have hbx := Blk.new w #[.int .i64 3, .string (M sp), .string (M nm), .slice A at_.length c, .slice B kids.length e, .string (M d)] 25
  have x1 := hbx.cell 1
  have x3 := hbx.cell 3
  have x4 := hbx.cell 4
  have x5 := hbx.cell 5
  have HB := Lib.hid hb0
  obtain ⟨bb, hbb⟩ : ∃ bb, bb = leafOk (.mk 3 sp nm at_ kids d) := ⟨_, rfl⟩
  rw [← hbb]
  rw [leafOk_eq] at hbb
  obtain rfl : bb = false := by
   rw [hbb]
   cases sp with
   | nil =>
     cases at_ with
     | nil =>
       cases kids with
       | nil => exact absurd ⟨rfl, rfl, rfl⟩ hall
       | cons _ _ => simp
     | cons _ _ => simp
   | cons _ _ => simp
  clear hbb hbx hb0 hG
  by_cases h1 : sp = []
  ·subst h1
   have h2 : 0 < at_.length + kids.length := by
    cases at_ with
    | nil =>
      cases kids with
      | nil => exact absurd ⟨rfl, rfl, rfl⟩ hall
      | cons _ _ => simp only [List.length_cons]; omega
    | cons _ _ => simp only [List.length_cons]; omega
   have hgt : (at_.length : Int) + (kids.length : Int) > 0 := by omega
   clear hall
   go_enter Tryz.func21, Tryz.ntmps21
   go_wp2
   go_ret
   exact ⟨rfl, HB.out⟩
  ·clear hall
   go_enter Tryz.func21, Tryz.ntmps21
   go_wp2
   go_ret
   exact ⟨rfl, HB.out⟩
end Go.Proofs.YtadgeghipimfiaaGreatDoor.X
end
section
namespace Go.Proofs.YtadgeghipimfiaaGreatDoor.Pg
open Go.RowKit Go.Proofs.YtadgeghipimfiaaGreatDoorW.PrintWords Go.Proofs.YtadgeghipimfiaaGreatDoorW.PrintLast Go.Proofs.YtadgeghipimfiaaGreatDoorW.PrintMore
open Go.Proofs.YtadgeghipimfiaaGreatDoor.X
set_option linter.unusedVariables false
set_option linter.unusedSimpArgs false
mutual
def broadsheetref05_First.j2 : Nat → ByteArray → Int → Int → Int → Option (Int × Int)
 | 0, _, _, _, _ => none
 | k + 1, x0, x5, x6, x7 => if (x0.size : Int) < x5 then (some (0, 0)) else (broadsheetref05_First.l0 k x0 x5 x6 x7 1)
def broadsheetref05_First.l0 : Nat → ByteArray → Int → Int → Int → Int → Option (Int × Int)
 | 0, _, _, _, _, _ => none
 | k + 1, x0, x5, x6, x7, x8 => if x8 < x5 then (if 0 ≤ x8 then (if x8 < (x0.size : Int) then (if (wrap64 (bt x0 x8)) < 128 then (some (0, 0)) else (if (wrap64 (bt x0 x8)) > 191 then (some (0, 0)) else (broadsheetref05_First.l0 k x0 x5 (wrap64 ((wrap64 ((wrap64 (x6 * 64)) + (wrap64 (bt x0 x8)))) - 128)) x7 (wrap64 (x8 + 1))))) else (none)) else (none)) else (if x6 < x7 then (some (0, 0)) else (if x6 > 1114111 then (some (0, 0)) else (if x6 ≥ 55296 then (if x6 ≤ 57343 then (some (0, 0)) else (some (x6, x5))) else (some (x6, x5)))))
def broadsheetref05_First.j0 : Nat → ByteArray → Int → Bool → Option (Int × Int)
 | 0, _, _, _ => none
 | k + 1, x0, x4, x19 => if x19 = true then (broadsheetref05_First.j2 k x0 2 (wrap64 (x4 - 192)) 128) else (if x4 ≥ 224 then (broadsheetref05_First.j1 k x0 x4 (decide (x4 < 240))) else (broadsheetref05_First.j1 k x0 x4 false))
def broadsheetref05_First.j1 : Nat → ByteArray → Int → Bool → Option (Int × Int)
 | 0, _, _, _ => none
 | k + 1, x0, x4, x28 => if x28 = true then (broadsheetref05_First.j2 k x0 3 (wrap64 (x4 - 224)) 2048) else (if x4 ≥ 240 then (if x4 < 248 then (broadsheetref05_First.j2 k x0 4 (wrap64 (x4 - 240)) 65536) else (some (0, 0))) else (some (0, 0)))
end
def broadsheetref05_First.f (k : Nat) (a0 : ByteArray) : Option (Int × Int) := if a0.toList = ([] : List UInt8) then (some (0, 0)) else (if 0 < (a0.size : Int) then (if (wrap64 (bt a0 0)) < 128 then (some (wrap64 (bt a0 0), 1)) else (if (wrap64 (bt a0 0)) ≥ 192 then (broadsheetref05_First.j0 k a0 (wrap64 (bt a0 0)) (decide ((wrap64 (bt a0 0)) < 224))) else (broadsheetref05_First.j0 k a0 (wrap64 (bt a0 0)) false))) else (none))
set_option maxHeartbeats 8000000 in
set_option maxRecDepth 100000 in
theorem broadsheetref05_First.calls (k : Nat) (a0 : ByteArray) (r1 : Int) (r2 : Int) (w : World) (h : broadsheetref05_First.f k a0 = some (r1, r2)) :
  Calls Tryz.prog 83 #[.string a0] w fun e w' => e = .returned (.tuple #[.int .i64 r1, .int .i64 r2]) ∧ Drawn0 w w' := by
 have H : (if a0.toList = ([] : List UInt8) then (some (0, 0)) else (if 0 < (a0.size : Int) then (if (wrap64 (bt a0 0)) < 128 then (some (wrap64 (bt a0 0), 1)) else (if (wrap64 (bt a0 0)) ≥ 192 then (broadsheetref05_First.j0 k a0 (wrap64 (bt a0 0)) (decide ((wrap64 (bt a0 0)) < 224))) else (broadsheetref05_First.j0 k a0 (wrap64 (bt a0 0)) false))) else (none))) = some (r1, r2) := h
 clear h
 by_cases c2 : a0.toList = ([] : List UInt8)
 ·rw [if_pos c2] at H
  have c2b0 : (a0.toList == ([] : List UInt8)) = true := beq_iff_eq.mpr c2
  have c2b1 : (a0.toList != ([] : List UInt8)) = false := bne_eq_false_iff_eq.mpr c2
  have c2b2 : (a0.toList).isEmpty = true := List.isEmpty_iff.mpr c2
  have c2b3 : (!(a0.toList).isEmpty) = false := by rw [c2b2]; rfl
  clear c2
  simp only [Option.some.injEq, Prod.mk.injEq] at H
  obtain ⟨rfl, rfl⟩ := H
  go_enter Tryz.func83, Tryz.ntmps83
  go_wp2
  all_goals try (exact absurd (by assumption : (!(a0.toList).isEmpty) = true) (by rw [c2b2]; decide))
  go_ret2
  exact ⟨by first | rfl | (simp; done) | (simp [*]; done) | (simp [xx_ne_nil, xx_eq_nil]; done) | (simp [*, xx_ne_nil, xx_eq_nil]; done), by repeat (first | exact Drawn0.refl _ | apply Drawn0.step)⟩
 ·rw [if_neg c2] at H
  have c2b0 : (a0.toList == ([] : List UInt8)) = false := beq_eq_false_iff_ne.mpr c2
  have c2b1 : (a0.toList != ([] : List UInt8)) = true := bne_iff_ne.mpr c2
  have c2b2 : (a0.toList).isEmpty = false := List.isEmpty_eq_false_iff.mpr c2
  have c2b3 : (!(a0.toList).isEmpty) = true := by rw [c2b2]; rfl
  by_cases c3 : 0 < (a0.size : Int)
  ·rw [if_pos c3] at H
   have c3b0 : decide (0 < (a0.size : Int)) = true := decide_eq_true c3
   have c3b1 : decide (0 < a0.size) = true := decide_eq_true (by omega)
   clear c3
   have HC5 := Aside0.mk H
   clear H
   have p4 : 0 ≤ (0 : Int) := (by omega)
   have q4 : 0 < a0.size := (by have : (0 : Int) < (a0.size : Int) := of_decide_eq_true (by first | (with_reducible assumption) | assumption); omega)
   have hx4 : ∀ h : 0 < a0.size, ((a0[0]'h).toNat : Int) = bt a0 0 := bt_at a0 0
   clear p4
   have qi4 : (0 < (a0.size : Int)) = True := eq_true (of_decide_eq_true (by first | (with_reducible assumption) | assumption))
   replace q4 := eq_true q4
   go_enter Tryz.func83, Tryz.ntmps83
   go_upto_block 0 with (fail)
   go_cut [5, 6, 7] (fun v5 v6 v7 wc => ∃ (kq : Nat) (x5_4 : Int) (x6_4 : Int) (x7_4 : Int), v5 = .int .i64 x5_4 ∧ v6 = .int .i64 x6_4 ∧ v7 = .int .i64 x7_4 ∧ Aside0 (broadsheetref05_First.j2 kq a0 x5_4 x6_4 x7_4 = some (r1, r2)) ∧ Aside0 (kq ≤ k) ∧ Drawn0 w wc)
   case first =>
    have H := HC5.out
    clear HC5
    by_cases c6 : (wrap64 (bt a0 0)) < 128
    ·rw [if_pos c6] at H
     have c6b0 : decide ((wrap64 (bt a0 0)) < 128) = true := decide_eq_true c6
     clear c6
     (first | rw [c6b0] | (simp only [i64_w, i32_w]; rw [c6b0]) | skip)
     simp only [Option.some.injEq, Prod.mk.injEq] at H
     obtain ⟨rfl, rfl⟩ := H
     go_wp2
     all_goals try (exact absurd (by assumption : (!(a0.toList).isEmpty) = false) (by rw [c2b2]; decide))
     go_ret2
     exact ⟨by first | rfl | (simp; done) | (simp [*]; done) | (simp [xx_ne_nil, xx_eq_nil]; done) | (simp [*, xx_ne_nil, xx_eq_nil]; done), by repeat (first | exact Drawn0.refl _ | apply Drawn0.step)⟩
    ·rw [if_neg c6] at H
     have c6b0 : decide ((wrap64 (bt a0 0)) < 128) = false := decide_eq_false c6
     clear c6
     (first | rw [c6b0] | (simp only [i64_w, i32_w]; rw [c6b0]) | skip)
     have HC7 := Aside0.mk H
     clear H
     go_upto_region 8 with (fail)
     go_cut [19] (fun v19 wc => ∃ (kq : Nat) (x19_6 : Bool), v19 = .bool x19_6 ∧ Aside0 (broadsheetref05_First.j0 kq a0 (wrap64 (bt a0 0)) x19_6 = some (r1, r2)) ∧ Aside0 (kq ≤ k) ∧ Drawn0 w wc)
     case first =>
      have H := HC7.out
      clear HC7
      by_cases c8 : (wrap64 (bt a0 0)) ≥ 192
      ·rw [if_pos c8] at H
       have c8b0 : decide (192 ≤ (wrap64 (bt a0 0))) = true := decide_eq_true c8
       clear c8
       (first | rw [c8b0] | (simp only [i64_w, i32_w]; rw [c8b0]) | skip)
       have H' := Aside0.mk H
       clear H
       go_wp2
       all_goals try (exact absurd (by assumption : (!(a0.toList).isEmpty) = false) (by rw [c2b2]; decide))
       go_meet
       case rel => exact ⟨_, (decide ((wrap64 (bt a0 0)) < 224)), (by first | rfl | (simp; done) | (simp [*]; done) | (simp [xx_ne_nil, xx_eq_nil]; done) | (simp [*, xx_ne_nil, xx_eq_nil]; done)), H', ⟨by first | omega | exact Nat.le_refl _⟩, by repeat (first | exact Drawn0.refl _ | apply Drawn0.step)⟩
      ·rw [if_neg c8] at H
       have c8b0 : decide (192 ≤ (wrap64 (bt a0 0))) = false := decide_eq_false c8
       clear c8
       (first | rw [c8b0] | (simp only [i64_w, i32_w]; rw [c8b0]) | skip)
       have H' := Aside0.mk H
       clear H
       go_wp2
       all_goals try (exact absurd (by assumption : (!(a0.toList).isEmpty) = false) (by rw [c2b2]; decide))
       go_meet
       case rel => exact ⟨_, (false), (by first | rfl | (simp; done) | (simp [*]; done) | (simp [xx_ne_nil, xx_eq_nil]; done) | (simp [*, xx_ne_nil, xx_eq_nil]; done)), H', ⟨by first | omega | exact Nat.le_refl _⟩, by repeat (first | exact Drawn0.refl _ | apply Drawn0.step)⟩
     case rest =>
      clear HC7
      try clear c2
      try clear c2b0
      try clear c2b1
      try clear p2
      try clear c3
      try clear c3b0
      try clear c3b1
      try clear p4
      try clear q4
      try clear hx4
      try clear qi4
      try clear c6
      try clear c6b0
      try clear p6
      try clear c8
      try clear c8b0
      try clear p4
      try clear q4
      obtain ⟨kq, x19_6, rfl, HA, HJ6, ⟨mc6, rfl⟩⟩ := hcut
      cases kq with
      | zero => exact absurd HA.out (by simp [broadsheetref05_First.j0])
      | succ kj6 =>
        have H := HA.out
        clear HA
        simp only [broadsheetref05_First.j0] at H
        by_cases c9 : x19_6 = true
        ·subst c9
         have H1 : (broadsheetref05_First.j2 kj6 a0 2 (wrap64 ((wrap64 (bt a0 0)) - 192)) 128) = some (r1, r2) := by rw [if_pos rfl] at H; exact H
         clear H
         have H := H1
         clear H1
         have H' := Aside0.mk H
         clear H
         go_wp2
         all_goals try (exact absurd (by assumption : (!(a0.toList).isEmpty) = false) (by rw [c2b2]; decide))
         go_meet
         case rel => exact ⟨_, (2), (wrap64 ((wrap64 (bt a0 0)) - 192)), (128), (by first | rfl | (simp; done) | (simp [*]; done) | (simp [xx_ne_nil, xx_eq_nil]; done) | (simp [*, xx_ne_nil, xx_eq_nil]; done)), (by first | rfl | (simp; done) | (simp [*]; done) | (simp [xx_ne_nil, xx_eq_nil]; done) | (simp [*, xx_ne_nil, xx_eq_nil]; done)), (by first | rfl | (simp; done) | (simp [*]; done) | (simp [xx_ne_nil, xx_eq_nil]; done) | (simp [*, xx_ne_nil, xx_eq_nil]; done)), H', ⟨by have := HJ6.out; first | omega | exact Nat.le_refl _⟩, by repeat (first | exact Drawn0.refl _ | apply Drawn0.step)⟩
        ·replace c9 := Bool.eq_false_iff.mpr c9
         subst c9
         have H1 : (if (wrap64 (bt a0 0)) ≥ 224 then (broadsheetref05_First.j1 kj6 a0 (wrap64 (bt a0 0)) (decide ((wrap64 (bt a0 0)) < 240))) else (broadsheetref05_First.j1 kj6 a0 (wrap64 (bt a0 0)) false)) = some (r1, r2) := by rw [if_neg (show ¬ (false = true) by decide)] at H; exact H
         clear H
         have H := H1
         clear H1
         have HC10 := Aside0.mk H
         clear H
         go_upto_region 10 with (fail)
         go_cut [28] (fun v28 wc => ∃ (kq : Nat) (x28_9 : Bool), v28 = .bool x28_9 ∧ Aside0 (broadsheetref05_First.j1 kq a0 (wrap64 (bt a0 0)) x28_9 = some (r1, r2)) ∧ Aside0 (kq ≤ kj6) ∧ Drawn0 w wc)
         case first =>
          have H := HC10.out
          clear HC10
          by_cases c11 : (wrap64 (bt a0 0)) ≥ 224
          ·rw [if_pos c11] at H
           have c11b0 : decide (224 ≤ (wrap64 (bt a0 0))) = true := decide_eq_true c11
           clear c11
           (first | rw [c11b0] | (simp only [i64_w, i32_w]; rw [c11b0]) | skip)
           have H' := Aside0.mk H
           clear H
           go_wp2
           all_goals try (exact absurd (by assumption : (!(a0.toList).isEmpty) = false) (by rw [c2b2]; decide))
           go_meet
           case rel => exact ⟨_, (decide ((wrap64 (bt a0 0)) < 240)), (by first | rfl | (simp; done) | (simp [*]; done) | (simp [xx_ne_nil, xx_eq_nil]; done) | (simp [*, xx_ne_nil, xx_eq_nil]; done)), H', ⟨by have := HJ6.out; first | omega | exact Nat.le_refl _⟩, by repeat (first | exact Drawn0.refl _ | apply Drawn0.step)⟩
          ·rw [if_neg c11] at H
           have c11b0 : decide (224 ≤ (wrap64 (bt a0 0))) = false := decide_eq_false c11
           clear c11
           (first | rw [c11b0] | (simp only [i64_w, i32_w]; rw [c11b0]) | skip)
           have H' := Aside0.mk H
           clear H
           go_wp2
           all_goals try (exact absurd (by assumption : (!(a0.toList).isEmpty) = false) (by rw [c2b2]; decide))
           go_meet
           case rel => exact ⟨_, (false), (by first | rfl | (simp; done) | (simp [*]; done) | (simp [xx_ne_nil, xx_eq_nil]; done) | (simp [*, xx_ne_nil, xx_eq_nil]; done)), H', ⟨by have := HJ6.out; first | omega | exact Nat.le_refl _⟩, by repeat (first | exact Drawn0.refl _ | apply Drawn0.step)⟩
         case rest =>
          clear HC10
          try clear c1
          try clear c2
          try clear c2b0
          try clear c2b1
          try clear p2
          try clear c3
          try clear c3b0
          try clear c3b1
          try clear p4
          try clear q4
          try clear hx4
          try clear qi4
          try clear c6
          try clear c6b0
          try clear p6
          try clear c8
          try clear c8b0
          try clear c9
          try clear c11
          try clear c11b0
          try clear p2
          try clear p4
          try clear p6
          try clear q4
          obtain ⟨kq, x28_9, rfl, HA, HJ9, ⟨mc9, rfl⟩⟩ := hcut
          cases kq with
          | zero => exact absurd HA.out (by simp [broadsheetref05_First.j1])
          | succ kj9 =>
            have H := HA.out
            clear HA
            simp only [broadsheetref05_First.j1] at H
            by_cases c12 : x28_9 = true
            ·subst c12
             have H1 : (broadsheetref05_First.j2 kj9 a0 3 (wrap64 ((wrap64 (bt a0 0)) - 224)) 2048) = some (r1, r2) := by rw [if_pos rfl] at H; exact H
             clear H
             have H := H1
             clear H1
             have H' := Aside0.mk H
             clear H
             go_wp2
             all_goals try (exact absurd (by assumption : (!(a0.toList).isEmpty) = false) (by rw [c2b2]; decide))
             go_meet
             case rel => exact ⟨_, (3), (wrap64 ((wrap64 (bt a0 0)) - 224)), (2048), (by first | rfl | (simp; done) | (simp [*]; done) | (simp [xx_ne_nil, xx_eq_nil]; done) | (simp [*, xx_ne_nil, xx_eq_nil]; done)), (by first | rfl | (simp; done) | (simp [*]; done) | (simp [xx_ne_nil, xx_eq_nil]; done) | (simp [*, xx_ne_nil, xx_eq_nil]; done)), (by first | rfl | (simp; done) | (simp [*]; done) | (simp [xx_ne_nil, xx_eq_nil]; done) | (simp [*, xx_ne_nil, xx_eq_nil]; done)), H', ⟨by have := HJ6.out; have := HJ9.out; first | omega | exact Nat.le_refl _⟩, by repeat (first | exact Drawn0.refl _ | apply Drawn0.step)⟩
            ·replace c12 := Bool.eq_false_iff.mpr c12
             subst c12
             have H1 : (if (wrap64 (bt a0 0)) ≥ 240 then (if (wrap64 (bt a0 0)) < 248 then (broadsheetref05_First.j2 kj9 a0 4 (wrap64 ((wrap64 (bt a0 0)) - 240)) 65536) else (some (0, 0))) else (some (0, 0))) = some (r1, r2) := by rw [if_neg (show ¬ (false = true) by decide)] at H; exact H
             clear H
             have H := H1
             clear H1
             by_cases c13 : (wrap64 (bt a0 0)) ≥ 240
             ·rw [if_pos c13] at H
              have c13b0 : decide (240 ≤ (wrap64 (bt a0 0))) = true := decide_eq_true c13
              clear c13
              by_cases c14 : (wrap64 (bt a0 0)) < 248
              ·rw [if_pos c14] at H
               have c14b0 : decide ((wrap64 (bt a0 0)) < 248) = true := decide_eq_true c14
               clear c14
               have H' := Aside0.mk H
               clear H
               go_wp2
               all_goals try (exact absurd (by assumption : (!(a0.toList).isEmpty) = false) (by rw [c2b2]; decide))
               go_meet
               case rel => exact ⟨_, (4), (wrap64 ((wrap64 (bt a0 0)) - 240)), (65536), (by first | rfl | (simp; done) | (simp [*]; done) | (simp [xx_ne_nil, xx_eq_nil]; done) | (simp [*, xx_ne_nil, xx_eq_nil]; done)), (by first | rfl | (simp; done) | (simp [*]; done) | (simp [xx_ne_nil, xx_eq_nil]; done) | (simp [*, xx_ne_nil, xx_eq_nil]; done)), (by first | rfl | (simp; done) | (simp [*]; done) | (simp [xx_ne_nil, xx_eq_nil]; done) | (simp [*, xx_ne_nil, xx_eq_nil]; done)), H', ⟨by have := HJ6.out; have := HJ9.out; first | omega | exact Nat.le_refl _⟩, by repeat (first | exact Drawn0.refl _ | apply Drawn0.step)⟩
              ·rw [if_neg c14] at H
               have c14b0 : decide ((wrap64 (bt a0 0)) < 248) = false := decide_eq_false c14
               clear c14
               simp only [Option.some.injEq, Prod.mk.injEq] at H
               obtain ⟨rfl, rfl⟩ := H
               go_wp2
               all_goals try (exact absurd (by assumption : (!(a0.toList).isEmpty) = false) (by rw [c2b2]; decide))
               go_ret2
               exact ⟨by first | rfl | (simp; done) | (simp [*]; done) | (simp [xx_ne_nil, xx_eq_nil]; done) | (simp [*, xx_ne_nil, xx_eq_nil]; done), by repeat (first | exact Drawn0.refl _ | apply Drawn0.step)⟩
             ·rw [if_neg c13] at H
              have c13b0 : decide (240 ≤ (wrap64 (bt a0 0))) = false := decide_eq_false c13
              clear c13
              simp only [Option.some.injEq, Prod.mk.injEq] at H
              obtain ⟨rfl, rfl⟩ := H
              go_wp2
              all_goals try (exact absurd (by assumption : (!(a0.toList).isEmpty) = false) (by rw [c2b2]; decide))
              go_ret2
              exact ⟨by first | rfl | (simp; done) | (simp [*]; done) | (simp [xx_ne_nil, xx_eq_nil]; done) | (simp [*, xx_ne_nil, xx_eq_nil]; done), by repeat (first | exact Drawn0.refl _ | apply Drawn0.step)⟩
   case rest =>
    clear HC5
    try clear c1
    try clear c2
    try clear c2b0
    try clear c2b1
    try clear p2
    try clear c3
    try clear c3b0
    try clear c3b1
    try clear p4
    try clear q4
    try clear hx4
    try clear qi4
    try clear c6
    try clear c6b0
    try clear p6
    try clear c8
    try clear c8b0
    try clear c9
    try clear c11
    try clear c11b0
    try clear c12
    try clear c13
    try clear c13b0
    try clear c14
    try clear c14b0
    try clear p2
    try clear p4
    try clear p6
    try clear q4
    obtain ⟨kq, x5_4, x6_4, x7_4, rfl, rfl, rfl, HA, HJ4, ⟨mc4, rfl⟩⟩ := hcut
    cases kq with
    | zero => exact absurd HA.out (by simp [broadsheetref05_First.j2])
    | succ kj4 =>
      have H := HA.out
      clear HA
      simp only [broadsheetref05_First.j2] at H
      by_cases c15 : (a0.size : Int) < x5_4
      ·rw [if_pos c15] at H
       have c15b0 : decide ((a0.size : Int) < x5_4) = true := decide_eq_true c15
       clear c15
       simp only [Option.some.injEq, Prod.mk.injEq] at H
       obtain ⟨rfl, rfl⟩ := H
       go_wp2
       all_goals try (exact absurd (by assumption : (!(a0.toList).isEmpty) = false) (by rw [c2b2]; decide))
       go_ret2
       exact ⟨by first | rfl | (simp; done) | (simp [*]; done) | (simp [xx_ne_nil, xx_eq_nil]; done) | (simp [*, xx_ne_nil, xx_eq_nil]; done), by repeat (first | exact Drawn0.refl _ | apply Drawn0.step)⟩
      ·rw [if_neg c15] at H
       have c15b0 : decide ((a0.size : Int) < x5_4) = false := decide_eq_false c15
       clear c15
       have H' := Aside0.mk H
       clear H
       go_wp2
       go_loopg [6, 8] kj4 (fun kq v6 v8 w' => ∃ (x6_2 : Int) (x8_2 : Int), v6 = .int .i64 x6_2 ∧ v8 = .int .i64 x8_2 ∧ Aside0 (broadsheetref05_First.l0 kq a0 x5_4 x6_2 x7_4 x8_2 = some (r1, r2)) ∧ Aside0 (kq ≤ kj4) ∧ Drawn0 w w')
       case atStart => exact ⟨(x6_4), (1), (by first | rfl | (simp; done) | (simp [*]; done) | (simp [xx_ne_nil, xx_eq_nil]; done) | (simp [*, xx_ne_nil, xx_eq_nil]; done)), (by first | rfl | (simp; done) | (simp [*]; done) | (simp [xx_ne_nil, xx_eq_nil]; done) | (simp [*, xx_ne_nil, xx_eq_nil]; done)), H', ⟨Nat.le_refl _⟩, by repeat (first | exact Drawn0.refl _ | apply Drawn0.step)⟩
       case round =>
        clear H'
        try clear c1
        try clear c2
        try clear c2b0
        try clear c2b1
        try clear p2
        try clear c3
        try clear c3b0
        try clear c3b1
        try clear c4
        try clear p4
        try clear q4
        try clear hx4
        try clear qi4
        try clear c6
        try clear c6b0
        try clear p6
        try clear c8
        try clear c8b0
        try clear c9
        try clear c11
        try clear c11b0
        try clear c12
        try clear c13
        try clear c13b0
        try clear c14
        try clear c14b0
        try clear c15
        try clear c15b0
        try clear p2
        try clear p4
        try clear p6
        try clear q4
        obtain ⟨x6_2, x8_2, rfl, rfl, HA, HK2, ⟨m2, rfl⟩⟩ := hrel
        cases gk with
        | zero => exact absurd HA.out (by simp [broadsheetref05_First.l0])
        | succ k2 =>
          have H := HA.out
          clear HA
          simp only [broadsheetref05_First.l0] at H
          by_cases c16 : x8_2 < x5_4
          ·rw [if_pos c16] at H
           have c16b0 : decide (x8_2 < x5_4) = true := decide_eq_true c16
           clear c16
           by_cases c17 : 0 ≤ x8_2
           ·rw [if_pos c17] at H
            have c17b0 : decide (0 ≤ x8_2) = true := decide_eq_true c17
            clear c17
            by_cases c18 : x8_2 < (a0.size : Int)
            ·rw [if_pos c18] at H
             have c18b0 : decide (x8_2 < (a0.size : Int)) = true := decide_eq_true c18
             clear c18
             by_cases c20 : (wrap64 (bt a0 x8_2)) < 128
             ·rw [if_pos c20] at H
              have c20b0 : decide ((wrap64 (bt a0 x8_2)) < 128) = true := decide_eq_true c20
              clear c20
              simp only [Option.some.injEq, Prod.mk.injEq] at H
              obtain ⟨rfl, rfl⟩ := H
              have p19 : 0 ≤ (x8_2 : Int) := of_decide_eq_true (by first | (with_reducible assumption) | assumption)
              have q19 : x8_2 < (a0.size : Int) := of_decide_eq_true (by first | (with_reducible assumption) | assumption)
              have hx19 := bt_at a0 x8_2
              replace p19 := eq_true p19
              replace q19 := eq_true q19
              go_wp2
              all_goals try (exact absurd (by assumption : (!(a0.toList).isEmpty) = false) (by rw [c2b2]; decide))
              go_ret2
              exact ⟨by first | rfl | (simp; done) | (simp [*]; done) | (simp [xx_ne_nil, xx_eq_nil]; done) | (simp [*, xx_ne_nil, xx_eq_nil]; done), by repeat (first | exact Drawn0.refl _ | apply Drawn0.step)⟩
             ·rw [if_neg c20] at H
              have c20b0 : decide ((wrap64 (bt a0 x8_2)) < 128) = false := decide_eq_false c20
              clear c20
              by_cases c21 : (wrap64 (bt a0 x8_2)) > 191
              ·rw [if_pos c21] at H
               have c21b0 : decide (191 < (wrap64 (bt a0 x8_2))) = true := decide_eq_true c21
               clear c21
               simp only [Option.some.injEq, Prod.mk.injEq] at H
               obtain ⟨rfl, rfl⟩ := H
               have p19 : 0 ≤ (x8_2 : Int) := of_decide_eq_true (by first | (with_reducible assumption) | assumption)
               have q19 : x8_2 < (a0.size : Int) := of_decide_eq_true (by first | (with_reducible assumption) | assumption)
               have hx19 := bt_at a0 x8_2
               replace p19 := eq_true p19
               replace q19 := eq_true q19
               go_wp2
               all_goals try (exact absurd (by assumption : (!(a0.toList).isEmpty) = false) (by rw [c2b2]; decide))
               go_ret2
               exact ⟨by first | rfl | (simp; done) | (simp [*]; done) | (simp [xx_ne_nil, xx_eq_nil]; done) | (simp [*, xx_ne_nil, xx_eq_nil]; done), by repeat (first | exact Drawn0.refl _ | apply Drawn0.step)⟩
              ·rw [if_neg c21] at H
               have c21b0 : decide (191 < (wrap64 (bt a0 x8_2))) = false := decide_eq_false c21
               clear c21
               have H' := Aside0.mk H
               clear H
               have p19 : 0 ≤ (x8_2 : Int) := of_decide_eq_true (by first | (with_reducible assumption) | assumption)
               have q19 : x8_2 < (a0.size : Int) := of_decide_eq_true (by first | (with_reducible assumption) | assumption)
               have hx19 := bt_at a0 x8_2
               replace p19 := eq_true p19
               replace q19 := eq_true q19
               go_wp2
               go_roundg k2
               case measure => have := HJ4.out; have := HK2.out; omega
               case rel => exact ⟨(wrap64 ((wrap64 ((wrap64 (x6_2 * 64)) + (wrap64 (bt a0 x8_2)))) - 128)), (wrap64 (x8_2 + 1)), (by first | rfl | (simp; done) | (simp [*]; done) | (simp [xx_ne_nil, xx_eq_nil]; done) | (simp [*, xx_ne_nil, xx_eq_nil]; done)), (by first | rfl | (simp; done) | (simp [*]; done) | (simp [xx_ne_nil, xx_eq_nil]; done) | (simp [*, xx_ne_nil, xx_eq_nil]; done)), H', ⟨by have := HJ4.out; have := HK2.out; omega⟩, by repeat (first | exact Drawn0.refl _ | apply Drawn0.step)⟩
            ·rw [if_neg c18] at H
             exact absurd H (by simp)
           ·rw [if_neg c17] at H
            exact absurd H (by simp)
          ·rw [if_neg c16] at H
           have c16b0 : decide (x8_2 < x5_4) = false := decide_eq_false c16
           clear c16
           by_cases c22 : x6_2 < x7_4
           ·rw [if_pos c22] at H
            have c22b0 : decide (x6_2 < x7_4) = true := decide_eq_true c22
            clear c22
            simp only [Option.some.injEq, Prod.mk.injEq] at H
            obtain ⟨rfl, rfl⟩ := H
            go_wp2
            all_goals try (exact absurd (by assumption : (!(a0.toList).isEmpty) = false) (by rw [c2b2]; decide))
            go_ret2
            exact ⟨by first | rfl | (simp; done) | (simp [*]; done) | (simp [xx_ne_nil, xx_eq_nil]; done) | (simp [*, xx_ne_nil, xx_eq_nil]; done), by repeat (first | exact Drawn0.refl _ | apply Drawn0.step)⟩
           ·rw [if_neg c22] at H
            have c22b0 : decide (x6_2 < x7_4) = false := decide_eq_false c22
            clear c22
            by_cases c23 : x6_2 > 1114111
            ·rw [if_pos c23] at H
             have c23b0 : decide (1114111 < x6_2) = true := decide_eq_true c23
             clear c23
             simp only [Option.some.injEq, Prod.mk.injEq] at H
             obtain ⟨rfl, rfl⟩ := H
             go_wp2
             all_goals try (exact absurd (by assumption : (!(a0.toList).isEmpty) = false) (by rw [c2b2]; decide))
             go_ret2
             exact ⟨by first | rfl | (simp; done) | (simp [*]; done) | (simp [xx_ne_nil, xx_eq_nil]; done) | (simp [*, xx_ne_nil, xx_eq_nil]; done), by repeat (first | exact Drawn0.refl _ | apply Drawn0.step)⟩
            ·rw [if_neg c23] at H
             have c23b0 : decide (1114111 < x6_2) = false := decide_eq_false c23
             clear c23
             by_cases c24 : x6_2 ≥ 55296
             ·rw [if_pos c24] at H
              have c24b0 : decide (55296 ≤ x6_2) = true := decide_eq_true c24
              clear c24
              by_cases c25 : x6_2 ≤ 57343
              ·rw [if_pos c25] at H
               have c25b0 : decide (x6_2 ≤ 57343) = true := decide_eq_true c25
               clear c25
               simp only [Option.some.injEq, Prod.mk.injEq] at H
               obtain ⟨rfl, rfl⟩ := H
               go_wp2
               all_goals try (exact absurd (by assumption : (!(a0.toList).isEmpty) = false) (by rw [c2b2]; decide))
               go_ret2
               exact ⟨by first | rfl | (simp; done) | (simp [*]; done) | (simp [xx_ne_nil, xx_eq_nil]; done) | (simp [*, xx_ne_nil, xx_eq_nil]; done), by repeat (first | exact Drawn0.refl _ | apply Drawn0.step)⟩
              ·rw [if_neg c25] at H
               have c25b0 : decide (x6_2 ≤ 57343) = false := decide_eq_false c25
               clear c25
               simp only [Option.some.injEq, Prod.mk.injEq] at H
               obtain ⟨rfl, rfl⟩ := H
               go_wp2
               all_goals try (exact absurd (by assumption : (!(a0.toList).isEmpty) = false) (by rw [c2b2]; decide))
               go_ret2
               exact ⟨by first | rfl | (simp; done) | (simp [*]; done) | (simp [xx_ne_nil, xx_eq_nil]; done) | (simp [*, xx_ne_nil, xx_eq_nil]; done), by repeat (first | exact Drawn0.refl _ | apply Drawn0.step)⟩
             ·rw [if_neg c24] at H
              have c24b0 : decide (55296 ≤ x6_2) = false := decide_eq_false c24
              clear c24
              simp only [Option.some.injEq, Prod.mk.injEq] at H
              obtain ⟨rfl, rfl⟩ := H
              go_wp2
              all_goals try (exact absurd (by assumption : (!(a0.toList).isEmpty) = false) (by rw [c2b2]; decide))
              go_ret2
              exact ⟨by first | rfl | (simp; done) | (simp [*]; done) | (simp [xx_ne_nil, xx_eq_nil]; done) | (simp [*, xx_ne_nil, xx_eq_nil]; done), by repeat (first | exact Drawn0.refl _ | apply Drawn0.step)⟩
  ·rw [if_neg c3] at H
   exact absurd H (by simp)
def broadsheetref05_in.l0 : Nat → Int → List Int → Int → Option (Bool)
 | 0, _, _, _ => none
 | k + 1, x0, x1, x5 => if (wrap64 (x5 + 1)) < (x1.length : Int) then (if 0 ≤ x5 then (if x5 < (x1.length : Int) then (if x0 ≥ (rd x1 x5) then (if 0 ≤ (wrap64 (x5 + 1)) then (if x0 ≤ (rd x1 (wrap64 (x5 + 1))) then (some true) else (broadsheetref05_in.l0 k x0 x1 (wrap64 (x5 + 2)))) else (none)) else (broadsheetref05_in.l0 k x0 x1 (wrap64 (x5 + 2)))) else (none)) else (none)) else (some false)
def broadsheetref05_in.f (k : Nat) (a0 : Int) (l1 : List Int) : Option (Bool) := broadsheetref05_in.l0 k a0 l1 0
set_option maxHeartbeats 8000000 in
set_option maxRecDepth 100000 in
theorem broadsheetref05_in.calls (k : Nat) (a0 : Int) (A1 : Option Addr) (c1 : Nat) (l1 : List Int) (r : Bool) (w : World) (hr1 : Kd.C (Kd.int .i64) w A1 l1.length l1) (hc1 : l1.length ≤ c1) (h : broadsheetref05_in.f k a0 l1 = some r) :
  Calls Tryz.prog 123 #[.int .i64 a0, .slice A1 l1.length c1] w fun e w' => e = .returned (.bool r) ∧ Drawn0 w w' := by
 have HR1 := Aside0.mk hr1
 have HC1 := Aside0.mk hc1
 clear hr1 hc1
 have H : (broadsheetref05_in.l0 k a0 l1 0) = some r := h
 clear h
 have H' := Aside0.mk H
 clear H
 go_enter Tryz.func123, Tryz.ntmps123
 go_wp2
 go_loopg [5] k (fun kq v5 w' => ∃ (x5_1 : Int), v5 = .int .i64 x5_1 ∧ Aside0 (broadsheetref05_in.l0 kq a0 l1 x5_1 = some r) ∧ Aside0 (kq ≤ k) ∧ Drawn0 w w')
 case atStart => exact ⟨(0), (by first | rfl | (simp; done) | (simp [*]; done) | (simp [xx_ne_nil, xx_eq_nil]; done) | (simp [*, xx_ne_nil, xx_eq_nil]; done)), H', ⟨Nat.le_refl _⟩, by repeat (first | exact Drawn0.refl _ | apply Drawn0.step)⟩
 case round =>
  clear H'
  try clear c1
  try clear p2
  obtain ⟨x5_1, rfl, HA, HK1, ⟨m1, rfl⟩⟩ := hrel
  cases gk with
  | zero => exact absurd HA.out (by simp [broadsheetref05_in.l0])
  | succ k1 =>
    have H := HA.out
    clear HA
    simp only [broadsheetref05_in.l0] at H
    by_cases c3 : (wrap64 (x5_1 + 1)) < (l1.length : Int)
    ·rw [if_pos c3] at H
     have c3b0 : decide ((wrap64 (x5_1 + 1)) < (l1.length : Int)) = true := decide_eq_true c3
     clear c3
     by_cases c4 : 0 ≤ x5_1
     ·rw [if_pos c4] at H
      have c4b0 : decide (0 ≤ x5_1) = true := decide_eq_true c4
      clear c4
      by_cases c5 : x5_1 < (l1.length : Int)
      ·rw [if_pos c5] at H
       have c5b0 : decide (x5_1 < (l1.length : Int)) = true := decide_eq_true c5
       clear c5
       by_cases c6 : a0 ≥ (rd l1 x5_1)
       ·rw [if_pos c6] at H
        have c6b0 : decide ((rd l1 x5_1) ≤ a0) = true := decide_eq_true c6
        clear c6
        obtain ⟨ji7, hji7⟩ : ∃ j_ : Int, (wrap64 (x5_1 + 1)) = j_ := ⟨_, rfl⟩
        replace H : (if 0 ≤ (ji7) then (if a0 ≤ (rd l1 (ji7)) then (some true) else (broadsheetref05_in.l0 k1 a0 l1 (wrap64 (x5_1 + 2)))) else (none)) = some r := by first | (rw [hji7] at H; exact H) | (simp only [hji7] at H ⊢; exact H)
        (try rw [hji7] at c3b0)
        have hji7w : (IntKind.i64.wrap (x5_1 + 1)) = ji7 := (i64_w _).trans hji7
        by_cases c8 : 0 ≤ (ji7)
        ·rw [if_pos c8] at H
         have c8b0 : decide (0 ≤ (ji7)) = true := decide_eq_true c8
         clear c8
         by_cases c9 : a0 ≤ (rd l1 (ji7))
         ·rw [if_pos c9] at H
          have c9b0 : decide (a0 ≤ (rd l1 (ji7))) = true := decide_eq_true c9
          clear c9
          obtain rfl := Option.some.inj H
          have p207 : 0 ≤ (x5_1 : Int) := of_decide_eq_true (by first | (with_reducible assumption) | assumption)
          have q207 : x5_1 < (l1.length : Int) := of_decide_eq_true (by first | (with_reducible assumption) | assumption)
          obtain ⟨ad207, e207, hx207_0⟩ := Kd.at_int HR1.out x5_1 p207 q207
          cases e207
          replace p207 := eq_true p207
          replace q207 := eq_true q207
          have p208 : 0 ≤ ((ji7) : Int) := of_decide_eq_true (by first | (with_reducible assumption) | assumption)
          have q208 : (ji7) < (l1.length : Int) := of_decide_eq_true (by first | (with_reducible assumption) | assumption)
          obtain ⟨ad208, e208, hx208_0⟩ := Kd.at_int HR1.out (ji7) p208 q208
          obtain rfl : ad207 = ad208 := (by injection e208)
          replace p208 := eq_true p208
          replace q208 := eq_true q208
          go_wp2
          go_ret
          exact ⟨by first | rfl | (simp; done) | (simp only [← hji7] <;> (first | rfl | simp)) | (simp [*]; done) | (simp [xx_ne_nil, xx_eq_nil]; done) | (simp [*, xx_ne_nil, xx_eq_nil]; done), by repeat (first | exact Drawn0.refl _ | apply Drawn0.step)⟩
         ·rw [if_neg c9] at H
          have c9b0 : decide (a0 ≤ (rd l1 (ji7))) = false := decide_eq_false c9
          clear c9
          have H' := Aside0.mk H
          clear H
          have p207 : 0 ≤ (x5_1 : Int) := of_decide_eq_true (by first | (with_reducible assumption) | assumption)
          have q207 : x5_1 < (l1.length : Int) := of_decide_eq_true (by first | (with_reducible assumption) | assumption)
          obtain ⟨ad207, e207, hx207_0⟩ := Kd.at_int HR1.out x5_1 p207 q207
          cases e207
          replace p207 := eq_true p207
          replace q207 := eq_true q207
          have p208 : 0 ≤ ((ji7) : Int) := of_decide_eq_true (by first | (with_reducible assumption) | assumption)
          have q208 : (ji7) < (l1.length : Int) := of_decide_eq_true (by first | (with_reducible assumption) | assumption)
          obtain ⟨ad208, e208, hx208_0⟩ := Kd.at_int HR1.out (ji7) p208 q208
          obtain rfl : ad207 = ad208 := (by injection e208)
          replace p208 := eq_true p208
          replace q208 := eq_true q208
          go_wp2
          go_roundg k1
          case measure => have := HK1.out; omega
          case rel => exact ⟨(wrap64 (x5_1 + 2)), (by first | rfl | (simp; done) | (simp [*]; done) | (simp [xx_ne_nil, xx_eq_nil]; done) | (simp [*, xx_ne_nil, xx_eq_nil]; done)), H', ⟨by have := HK1.out; omega⟩, by repeat (first | exact Drawn0.refl _ | apply Drawn0.step)⟩
        ·rw [if_neg c8] at H
         exact absurd H (by simp)
       ·rw [if_neg c6] at H
        have c6b0 : decide ((rd l1 x5_1) ≤ a0) = false := decide_eq_false c6
        clear c6
        have H' := Aside0.mk H
        clear H
        have p207 : 0 ≤ (x5_1 : Int) := of_decide_eq_true (by first | (with_reducible assumption) | assumption)
        have q207 : x5_1 < (l1.length : Int) := of_decide_eq_true (by first | (with_reducible assumption) | assumption)
        obtain ⟨ad207, e207, hx207_0⟩ := Kd.at_int HR1.out x5_1 p207 q207
        cases e207
        replace p207 := eq_true p207
        replace q207 := eq_true q207
        go_wp2
        go_roundg k1
        case measure => have := HK1.out; omega
        case rel => exact ⟨(wrap64 (x5_1 + 2)), (by first | rfl | (simp; done) | (simp [*]; done) | (simp [xx_ne_nil, xx_eq_nil]; done) | (simp [*, xx_ne_nil, xx_eq_nil]; done)), H', ⟨by have := HK1.out; omega⟩, by repeat (first | exact Drawn0.refl _ | apply Drawn0.step)⟩
      ·rw [if_neg c5] at H
       exact absurd H (by simp)
     ·rw [if_neg c4] at H
      exact absurd H (by simp)
    ·rw [if_neg c3] at H
     have c3b0 : decide ((wrap64 (x5_1 + 1)) < (l1.length : Int)) = false := decide_eq_false c3
     clear c3
     obtain rfl := Option.some.inj H
     go_wp2
     go_ret
     exact ⟨by first | rfl | (simp; done) | (simp [*]; done) | (simp [xx_ne_nil, xx_eq_nil]; done) | (simp [*, xx_ne_nil, xx_eq_nil]; done), by repeat (first | exact Drawn0.refl _ | apply Drawn0.step)⟩
def broadsheetref05_Start.f (k : Nat) (a0 : Int) : Option (Bool) := (broadsheetref05_in.f k a0 (([58, 58, 65, 90, 95, 95, 97, 122, 192, 214, 216, 246, 248, 767, 880, 893, 895, 8191, 8204, 8205, 8304, 8591, 11264, 12271, 12289, 55295, 63744, 64975, 65008, 65533, 65536, 983039] : List Int))).bind fun t212 => (some t212)
set_option maxHeartbeats 8000000 in
set_option maxRecDepth 100000 in
theorem broadsheetref05_Start.calls (k : Nat) (a0 : Int) (r : Bool) (w : World) (h : broadsheetref05_Start.f k a0 = some r) :
  Calls Tryz.prog 87 #[.int .i64 a0] w fun e w' => e = .returned (.bool r) ∧ Below w.heap.size w w' := by
 have HB := Aside0.mk (Below.refl w.heap.size w)
 have H : ((broadsheetref05_in.f k a0 (([58, 58, 65, 90, 95, 95, 97, 122, 192, 214, 216, 246, 248, 767, 880, 893, 895, 8191, 8204, 8205, 8304, 8591, 11264, 12271, 12289, 55295, 63744, 64975, 65008, 65533, 65536, 983039] : List Int))).bind fun t212 => (some t212)) = some r := h
 clear h
 obtain ⟨y209, hy209⟩ : ∃ y_ : List Int, y_ = (([58, 58, 65, 90, 95, 95, 97, 122, 192, 214, 216, 246, 248, 767, 880, 893, 895, 8191, 8204, 8205, 8304, 8591, 11264, 12271, 12289, 55295, 63744, 64975, 65008, 65533, 65536, 983039] : List Int)) := ⟨_, rfl⟩
 replace H : ((broadsheetref05_in.f k a0 y209).bind fun t212 => (some t212)) = some r := by first | (rw [hy209]; with_reducible exact H) | (have H2_ := (Option.bind_some _ _).symm.trans H; rw [hy209]; with_reducible exact H2_) | (have H2_ := (Option.bind_some _ _).symm.trans H; with_reducible exact H2_) | with_reducible exact H | (rw [hy209]; exact H) | exact H
 have Ny209 := Aside0.mk hy209
 clear hy209
 replace H := Option.bind_eq_some_iff.mp H
 obtain ⟨t212, A20, H⟩ := H
 replace H : (some t212) = some r := H
 have A2 := Aside0.mk A20
 clear A20
 obtain rfl := Option.some.inj H
 go_enter Tryz.func87, Tryz.ntmps87
 go_wp2_with (first | ((with_reducible refine gate_dst (N := 4) rfl ?_); refine Kd.R_lit (Kd.int .i64) _ 3 ?hg (N := 4) ?hd (xs := ([58, 58, 65, 90, 95, 95, 97, 122, 192, 214, 216, 246, 248, 767, 880, 893, 895, 8191, 8204, 8205, 8304, 8591, 11264, 12271, 12289, 55295, 63744, 64975, 65008, 65533, 65536, 983039] : List Int)) (inner := [.int .i64 58, .int .i64 58, .int .i64 65, .int .i64 90, .int .i64 95, .int .i64 95, .int .i64 97, .int .i64 122, .int .i64 192, .int .i64 214, .int .i64 216, .int .i64 246, .int .i64 248, .int .i64 767, .int .i64 880, .int .i64 893, .int .i64 895, .int .i64 8191, .int .i64 8204, .int .i64 8205, .int .i64 8304, .int .i64 8591, .int .i64 11264, .int .i64 12271, .int .i64 12289, .int .i64 55295, .int .i64 63744, .int .i64 64975, .int .i64 65008, .int .i64 65533, .int .i64 65536, .int .i64 983039]) (ok := fun _ => True) (okp := fun _ => True) ?hr ?hp (fun _ hk => hk) trivial (Below.refl _ _) (Nat.le_refl _) (by simp) ?_; (case hd => rfl); (case hg => rfl); (case hr => first | (go_simp; done) | (go_simp; rfl)); (case hp => exact (Reps.one (show Kd.M (Kd.int .i64) _ _ _ 58 [.int .i64 58] from rfl) (Reps.one (show Kd.M (Kd.int .i64) _ _ _ 58 [.int .i64 58] from rfl) (Reps.one (show Kd.M (Kd.int .i64) _ _ _ 65 [.int .i64 65] from rfl) (Reps.one (show Kd.M (Kd.int .i64) _ _ _ 90 [.int .i64 90] from rfl) (Reps.one (show Kd.M (Kd.int .i64) _ _ _ 95 [.int .i64 95] from rfl) (Reps.one (show Kd.M (Kd.int .i64) _ _ _ 95 [.int .i64 95] from rfl) (Reps.one (show Kd.M (Kd.int .i64) _ _ _ 97 [.int .i64 97] from rfl) (Reps.one (show Kd.M (Kd.int .i64) _ _ _ 122 [.int .i64 122] from rfl) (Reps.one (show Kd.M (Kd.int .i64) _ _ _ 192 [.int .i64 192] from rfl) (Reps.one (show Kd.M (Kd.int .i64) _ _ _ 214 [.int .i64 214] from rfl) (Reps.one (show Kd.M (Kd.int .i64) _ _ _ 216 [.int .i64 216] from rfl) (Reps.one (show Kd.M (Kd.int .i64) _ _ _ 246 [.int .i64 246] from rfl) (Reps.one (show Kd.M (Kd.int .i64) _ _ _ 248 [.int .i64 248] from rfl) (Reps.one (show Kd.M (Kd.int .i64) _ _ _ 767 [.int .i64 767] from rfl) (Reps.one (show Kd.M (Kd.int .i64) _ _ _ 880 [.int .i64 880] from rfl) (Reps.one (show Kd.M (Kd.int .i64) _ _ _ 893 [.int .i64 893] from rfl) (Reps.one (show Kd.M (Kd.int .i64) _ _ _ 895 [.int .i64 895] from rfl) (Reps.one (show Kd.M (Kd.int .i64) _ _ _ 8191 [.int .i64 8191] from rfl) (Reps.one (show Kd.M (Kd.int .i64) _ _ _ 8204 [.int .i64 8204] from rfl) (Reps.one (show Kd.M (Kd.int .i64) _ _ _ 8205 [.int .i64 8205] from rfl) (Reps.one (show Kd.M (Kd.int .i64) _ _ _ 8304 [.int .i64 8304] from rfl) (Reps.one (show Kd.M (Kd.int .i64) _ _ _ 8591 [.int .i64 8591] from rfl) (Reps.one (show Kd.M (Kd.int .i64) _ _ _ 11264 [.int .i64 11264] from rfl) (Reps.one (show Kd.M (Kd.int .i64) _ _ _ 12271 [.int .i64 12271] from rfl) (Reps.one (show Kd.M (Kd.int .i64) _ _ _ 12289 [.int .i64 12289] from rfl) (Reps.one (show Kd.M (Kd.int .i64) _ _ _ 55295 [.int .i64 55295] from rfl) (Reps.one (show Kd.M (Kd.int .i64) _ _ _ 63744 [.int .i64 63744] from rfl) (Reps.one (show Kd.M (Kd.int .i64) _ _ _ 64975 [.int .i64 64975] from rfl) (Reps.one (show Kd.M (Kd.int .i64) _ _ _ 65008 [.int .i64 65008] from rfl) (Reps.one (show Kd.M (Kd.int .i64) _ _ _ 65533 [.int .i64 65533] from rfl) (Reps.one (show Kd.M (Kd.int .i64) _ _ _ 65536 [.int .i64 65536] from rfl) (Reps.one (show Kd.M (Kd.int .i64) _ _ _ 983039 [.int .i64 983039] from rfl) (Reps.none _ _)))))))))))))))))))))))))))))))))); intro v210 w3 ho4 hb hg_ hnew_; clear hg_ hnew_; (first | rw [← Ny209.out] at ho4 | (simp only [Int.reduceToNat] at ho4; rw [← Ny209.out] at ho4)); have n0_ := Aside0.mk (Kd.R_lower ho4 (below_size (by repeat (first | (with_reducible first | exact HB.out | apply below_alloc | apply pw_below_drewN | apply below_drew1) | exact HB.out)))); have n1_ := Aside0.mk (below_step (by repeat (first | (with_reducible first | exact HB.out | apply below_alloc | apply pw_below_drewN | apply below_drew1) | exact HB.out)) hb); clear HB; have HO211 := n0_; have HB := n1_; clear n0_ n1_; clear hb ho4; obtain ⟨Ao5, co5, eo5⟩ := Kd.R_slice HO211.out; subst eo5) | ((with_reducible refine gate_callee (f := 123) rfl ?_); refine goesL_ (some 5) rfl rfl Tryz.func123 (by kernel_rfl) rfl #[.int .i64 a0, .slice Ao5 y209.length co5] rfl (by (try simp only [List.map_toArray, List.map_cons, List.map_nil]); first | done | rfl | (simp only [List.length_drop, List.length_take]; rfl)) ?_; (with_reducible refine (broadsheetref05_in.calls k a0 _ _ y209 t212 _ ?side1 ?side2 A2.out).mono ?_); (case side1 => repeat (first | exact (Kd.R_reads' HO211.out).2.2 | (with_reducible refine Kd.C_alloc ?_ _) | (with_reducible refine Kd.C_drewN ?_ _) | (with_reducible refine Kd.C_drew ?_))); (case side2 => exact (Kd.R_reads' HO211.out).2.1); rintro e w' ⟨rfl, ⟨nd, rfl⟩⟩; refine ⟨_, rfl, ?_⟩))
 go_ret
 exact ⟨by first | rfl | (simp [errW_none, errW_some] <;> rfl) | (simp [*, errW_none, errW_some] <;> rfl), by repeat (first | (with_reducible first | exact HB.out | apply below_alloc | apply pw_below_drewN | apply below_drew1) | exact HB.out)⟩
def broadsheetref05_Part.f (k : Nat) (a0 : Int) : Option (Bool) := (broadsheetref05_Start.f k a0).bind fun t213 => (if t213 = true then (some true) else ((broadsheetref05_in.f k a0 (([45, 46, 48, 57, 183, 183, 768, 879, 8255, 8256] : List Int))).bind fun t217 => (some t217)))
set_option maxHeartbeats 8000000 in
set_option maxRecDepth 100000 in
theorem broadsheetref05_Part.calls (k : Nat) (a0 : Int) (r : Bool) (w : World) (h : broadsheetref05_Part.f k a0 = some r) :
  Calls Tryz.prog 86 #[.int .i64 a0] w fun e w' => e = .returned (.bool r) ∧ Below w.heap.size w w' := by
 have HB := Aside0.mk (Below.refl w.heap.size w)
 have H : ((broadsheetref05_Start.f k a0).bind fun t213 => (if t213 = true then (some true) else ((broadsheetref05_in.f k a0 (([45, 46, 48, 57, 183, 183, 768, 879, 8255, 8256] : List Int))).bind fun t217 => (some t217)))) = some r := h
 clear h
 replace H := Option.bind_eq_some_iff.mp H
 obtain ⟨t213, A20, H⟩ := H
 replace H : (if t213 = true then (some true) else ((broadsheetref05_in.f k a0 (([45, 46, 48, 57, 183, 183, 768, 879, 8255, 8256] : List Int))).bind fun t217 => (some t217))) = some r := H
 have A2 := Aside0.mk A20
 clear A20
 by_cases c3 : t213 = true
 ·subst c3
  have H1 : (some true) = some r := by rw [if_pos rfl] at H; exact H
  clear H
  have H := H1
  clear H1
  obtain rfl := Option.some.inj H
  go_enter Tryz.func86, Tryz.ntmps86
  go_wp2_with (first | ((with_reducible refine gate_callee (f := 87) rfl ?_); refine goesL_ (some 4) rfl rfl Tryz.func87 (by kernel_rfl) rfl #[.int .i64 a0] rfl (by (try simp only [List.map_toArray, List.map_cons, List.map_nil]); first | done | rfl | (simp only [List.length_drop, List.length_take]; rfl)) ?_; (with_reducible refine (broadsheetref05_Start.calls k a0 true _ A2.out).mono ?_); rintro e w4 ⟨rfl, hb⟩; refine ⟨_, rfl, ?_⟩; have n0_ := Aside0.mk (below_step (by repeat (first | (with_reducible first | exact HB.out | apply below_alloc | apply pw_below_drewN | apply below_drew1) | exact HB.out)) hb); clear HB; have HB := n0_; clear n0_; (try clear hb); (try clear hb2); (try clear hk); (try clear hi)))
  go_ret
  exact ⟨by first | rfl | (simp [errW_none, errW_some] <;> rfl) | (simp [*, errW_none, errW_some] <;> rfl), by repeat (first | (with_reducible first | exact HB.out | apply below_alloc | apply pw_below_drewN | apply below_drew1) | exact HB.out)⟩
 ·replace c3 := Bool.eq_false_iff.mpr c3
  subst c3
  have H1 : ((broadsheetref05_in.f k a0 (([45, 46, 48, 57, 183, 183, 768, 879, 8255, 8256] : List Int))).bind fun t217 => (some t217)) = some r := by rw [if_neg (show ¬ (false = true) by decide)] at H; exact H
  clear H
  have H := H1
  clear H1
  obtain ⟨y214, hy214⟩ : ∃ y_ : List Int, y_ = (([45, 46, 48, 57, 183, 183, 768, 879, 8255, 8256] : List Int)) := ⟨_, rfl⟩
  replace H : ((broadsheetref05_in.f k a0 y214).bind fun t217 => (some t217)) = some r := by first | (rw [hy214]; with_reducible exact H) | (have H2_ := (Option.bind_some _ _).symm.trans H; rw [hy214]; with_reducible exact H2_) | (have H2_ := (Option.bind_some _ _).symm.trans H; with_reducible exact H2_) | with_reducible exact H | (rw [hy214]; exact H) | exact H
  have Ny214 := Aside0.mk hy214
  clear hy214
  replace H := Option.bind_eq_some_iff.mp H
  obtain ⟨t217, A50, H⟩ := H
  replace H : (some t217) = some r := H
  have A5 := Aside0.mk A50
  clear A50
  obtain rfl := Option.some.inj H
  go_enter Tryz.func86, Tryz.ntmps86
  go_wp2_with (first | ((with_reducible refine gate_callee (f := 87) rfl ?_); refine goesL_ (some 4) rfl rfl Tryz.func87 (by kernel_rfl) rfl #[.int .i64 a0] rfl (by (try simp only [List.map_toArray, List.map_cons, List.map_nil]); first | done | rfl | (simp only [List.length_drop, List.length_take]; rfl)) ?_; (with_reducible refine (broadsheetref05_Start.calls k a0 false _ A2.out).mono ?_); rintro e w6 ⟨rfl, hb⟩; refine ⟨_, rfl, ?_⟩; have n0_ := Aside0.mk (below_step (by repeat (first | (with_reducible first | exact HB.out | apply below_alloc | apply pw_below_drewN | apply below_drew1) | exact HB.out)) hb); clear HB; have HB := n0_; clear n0_; (try clear hb); (try clear hb2); (try clear hk); (try clear hi)) | ((with_reducible refine gate_dst (N := 7) rfl ?_); (try (refine gate_guard (by rfl) ?_; dsimp only)); refine Kd.R_lit (Kd.int .i64) _ 3 ?hg (N := 7) ?hd (xs := ([45, 46, 48, 57, 183, 183, 768, 879, 8255, 8256] : List Int)) (inner := [.int .i64 45, .int .i64 46, .int .i64 48, .int .i64 57, .int .i64 183, .int .i64 183, .int .i64 768, .int .i64 879, .int .i64 8255, .int .i64 8256]) (ok := fun _ => True) (okp := fun _ => True) ?hr ?hp (fun _ hk => hk) trivial (Below.refl _ _) (Nat.le_refl _) (by simp) ?_; (case hd => rfl); (case hg => rfl); (case hr => first | (go_simp; done) | (go_simp; rfl)); (case hp => exact (Reps.one (show Kd.M (Kd.int .i64) _ _ _ 45 [.int .i64 45] from rfl) (Reps.one (show Kd.M (Kd.int .i64) _ _ _ 46 [.int .i64 46] from rfl) (Reps.one (show Kd.M (Kd.int .i64) _ _ _ 48 [.int .i64 48] from rfl) (Reps.one (show Kd.M (Kd.int .i64) _ _ _ 57 [.int .i64 57] from rfl) (Reps.one (show Kd.M (Kd.int .i64) _ _ _ 183 [.int .i64 183] from rfl) (Reps.one (show Kd.M (Kd.int .i64) _ _ _ 183 [.int .i64 183] from rfl) (Reps.one (show Kd.M (Kd.int .i64) _ _ _ 768 [.int .i64 768] from rfl) (Reps.one (show Kd.M (Kd.int .i64) _ _ _ 879 [.int .i64 879] from rfl) (Reps.one (show Kd.M (Kd.int .i64) _ _ _ 8255 [.int .i64 8255] from rfl) (Reps.one (show Kd.M (Kd.int .i64) _ _ _ 8256 [.int .i64 8256] from rfl) (Reps.none _ _)))))))))))); intro v215 w7 ho8 hb hg_ hnew_; clear hg_ hnew_; (first | rw [← Ny214.out] at ho8 | (simp only [Int.reduceToNat] at ho8; rw [← Ny214.out] at ho8)); have n0_ := Aside0.mk (Kd.R_lower ho8 (below_size (by repeat (first | (with_reducible first | exact HB.out | apply below_alloc | apply pw_below_drewN | apply below_drew1) | exact HB.out)))); have n1_ := Aside0.mk (below_step (by repeat (first | (with_reducible first | exact HB.out | apply below_alloc | apply pw_below_drewN | apply below_drew1) | exact HB.out)) hb); clear HB; have HO216 := n0_; have HB := n1_; clear n0_ n1_; clear hb ho8; obtain ⟨Ao9, co9, eo9⟩ := Kd.R_slice HO216.out; subst eo9) | (go_at_call 123; (with_reducible refine (broadsheetref05_in.calls k a0 _ _ y214 t217 _ ?side1 ?side2 A5.out).mono ?_); (case side1 => repeat (first | exact (Kd.R_reads' HO216.out).2.2 | (with_reducible refine Kd.C_alloc ?_ _) | (with_reducible refine Kd.C_drewN ?_ _) | (with_reducible refine Kd.C_drew ?_))); (case side2 => exact (Kd.R_reads' HO216.out).2.1); rintro e w' ⟨rfl, ⟨nd, rfl⟩⟩))
  go_ret
  exact ⟨by first | rfl | (simp [errW_none, errW_some] <;> rfl) | (simp [*, errW_none, errW_some] <;> rfl), by repeat (first | (with_reducible first | exact HB.out | apply below_alloc | apply pw_below_drewN | apply below_drew1) | exact HB.out)⟩
def broadsheetref05_Name.l0 : Nat → ByteArray → ByteArray → Option (ByteArray × ByteArray × Int)
 | 0, _, _ => none
 | k + 1, x0, x5 => if (x5.size : Int) > 0 then ((broadsheetref05_First.f k x5).bind fun bt218 => (if bt218.2 = 0 then (if (x5.size : Int) = (x0.size : Int) then (some ((⟨#[]⟩ : ByteArray), (⟨#[]⟩ : ByteArray), 51)) else (if 0 ≤ (wrap64 ((x0.size : Int) - (x5.size : Int))) then (if (wrap64 ((x0.size : Int) - (x5.size : Int))) ≤ (x0.size : Int) then (some (x0.extract 0 ((wrap64 ((x0.size : Int) - (x5.size : Int))) : Int).toNat, x5, 0)) else (none)) else (none))) else ((broadsheetref05_Part.f k bt218.1).bind fun t220 => (if t220 = true then (if (x5.size : Int) = (x0.size : Int) then ((broadsheetref05_Start.f k bt218.1).bind fun t221 => (if t221 = true then (if 0 ≤ bt218.2 then (if bt218.2 ≤ (x5.size : Int) then (broadsheetref05_Name.l0 k x0 (x5.extract (bt218.2 : Int).toNat x5.size)) else (none)) else (none)) else (some ((⟨#[]⟩ : ByteArray), (⟨#[]⟩ : ByteArray), 51)))) else (if 0 ≤ bt218.2 then (if bt218.2 ≤ (x5.size : Int) then (broadsheetref05_Name.l0 k x0 (x5.extract (bt218.2 : Int).toNat x5.size)) else (none)) else (none))) else (if (x5.size : Int) = (x0.size : Int) then (some ((⟨#[]⟩ : ByteArray), (⟨#[]⟩ : ByteArray), 51)) else (if 0 ≤ (wrap64 ((x0.size : Int) - (x5.size : Int))) then (if (wrap64 ((x0.size : Int) - (x5.size : Int))) ≤ (x0.size : Int) then (some (x0.extract 0 ((wrap64 ((x0.size : Int) - (x5.size : Int))) : Int).toNat, x5, 0)) else (none)) else (none))))))) else (if (x5.size : Int) = (x0.size : Int) then (some ((⟨#[]⟩ : ByteArray), (⟨#[]⟩ : ByteArray), 51)) else (if 0 ≤ (wrap64 ((x0.size : Int) - (x5.size : Int))) then (if (wrap64 ((x0.size : Int) - (x5.size : Int))) ≤ (x0.size : Int) then (some (x0.extract 0 ((wrap64 ((x0.size : Int) - (x5.size : Int))) : Int).toNat, x5, 0)) else (none)) else (none)))
def broadsheetref05_Name.f (k : Nat) (a0 : ByteArray) : Option (ByteArray × ByteArray × Int) := broadsheetref05_Name.l0 k a0 a0
set_option maxHeartbeats 8000000 in
set_option maxRecDepth 100000 in
theorem broadsheetref05_Name.calls (k : Nat) (a0 : ByteArray) (r1 : ByteArray) (r2 : ByteArray) (r3 : Int) (w : World) (h : broadsheetref05_Name.f k a0 = some (r1, r2, r3)) :
  Calls Tryz.prog 54 #[.string a0] w fun e w' => e = .returned (.tuple #[.string r1, .string r2, .int .i64 r3]) ∧ Below w.heap.size w w' := by
 have HB := Aside0.mk (Below.refl w.heap.size w)
 have H : (broadsheetref05_Name.l0 k a0 a0) = some (r1, r2, r3) := h
 clear h
 have H' := Aside0.mk H
 clear H
 go_enter Tryz.func54, Tryz.ntmps54
 go_wp2
 go_loopg [5] k (fun kq v5 w' => ∃ (x5_1 : ByteArray), v5 = .string x5_1 ∧ Aside0 (broadsheetref05_Name.l0 kq a0 x5_1 = some (r1, r2, r3)) ∧ Aside0 (kq ≤ k) ∧ Aside0 (Below w.heap.size w w'))
 case atStart => exact ⟨(a0), (by first | rfl | (simp; done) | (simp [*]; done) | (simp [xx_ne_nil, xx_eq_nil]; done) | (simp [*, xx_ne_nil, xx_eq_nil]; done)), H', ⟨Nat.le_refl _⟩, ⟨by repeat (first | (with_reducible first | exact HB.out | apply below_alloc | apply pw_below_drewN | apply below_drew1) | exact HB.out)⟩⟩
 case round =>
  clear H'
  obtain ⟨x5_1, rfl, HA, HK1, HB⟩ := hrel
  cases gk with
  | zero => exact absurd HA.out (by simp [broadsheetref05_Name.l0])
  | succ k1 =>
    have H := HA.out
    clear HA
    simp only [broadsheetref05_Name.l0] at H
    by_cases c2 : (x5_1.size : Int) > 0
    ·rw [if_pos c2] at H
     have c2b0 : decide (0 < (x5_1.size : Int)) = true := decide_eq_true c2
     have c2b1 : decide (0 < x5_1.size) = true := decide_eq_true (by omega)
     clear c2
     replace H := Option.bind_eq_some_iff.mp H
     obtain ⟨⟨t218, t219⟩, A30, H⟩ := H
     replace H : (if t219 = 0 then (if (x5_1.size : Int) = (a0.size : Int) then (some ((⟨#[]⟩ : ByteArray), (⟨#[]⟩ : ByteArray), 51)) else (if 0 ≤ (wrap64 ((a0.size : Int) - (x5_1.size : Int))) then (if (wrap64 ((a0.size : Int) - (x5_1.size : Int))) ≤ (a0.size : Int) then (some (a0.extract 0 ((wrap64 ((a0.size : Int) - (x5_1.size : Int))) : Int).toNat, x5_1, 0)) else (none)) else (none))) else ((broadsheetref05_Part.f k1 t218).bind fun t220 => (if t220 = true then (if (x5_1.size : Int) = (a0.size : Int) then ((broadsheetref05_Start.f k1 t218).bind fun t221 => (if t221 = true then (if 0 ≤ t219 then (if t219 ≤ (x5_1.size : Int) then (broadsheetref05_Name.l0 k1 a0 (x5_1.extract (t219 : Int).toNat x5_1.size)) else (none)) else (none)) else (some ((⟨#[]⟩ : ByteArray), (⟨#[]⟩ : ByteArray), 51)))) else (if 0 ≤ t219 then (if t219 ≤ (x5_1.size : Int) then (broadsheetref05_Name.l0 k1 a0 (x5_1.extract (t219 : Int).toNat x5_1.size)) else (none)) else (none))) else (if (x5_1.size : Int) = (a0.size : Int) then (some ((⟨#[]⟩ : ByteArray), (⟨#[]⟩ : ByteArray), 51)) else (if 0 ≤ (wrap64 ((a0.size : Int) - (x5_1.size : Int))) then (if (wrap64 ((a0.size : Int) - (x5_1.size : Int))) ≤ (a0.size : Int) then (some (a0.extract 0 ((wrap64 ((a0.size : Int) - (x5_1.size : Int))) : Int).toNat, x5_1, 0)) else (none)) else (none)))))) = some (r1, r2, r3) := H
     have A3 := Aside0.mk A30
     clear A30
     by_cases c4 : t219 = 0
     ·rw [if_pos c4] at H
      have c4b0 : (t219 == 0) = true := beq_iff_eq.mpr c4
      have c4b1 : (t219 != 0) = false := bne_eq_false_iff_eq.mpr c4
      clear c4
      by_cases c5 : (x5_1.size : Int) = (a0.size : Int)
      ·rw [if_pos c5] at H
       have c5b0 : ((x5_1.size : Int) == (a0.size : Int)) = true := beq_iff_eq.mpr c5
       have c5b1 : ((x5_1.size : Int) != (a0.size : Int)) = false := bne_eq_false_iff_eq.mpr c5
       have c5b2 : (x5_1.size == a0.size) = true := by first | simpa using c5 | (simp at c5 ⊢; omega)
       clear c5
       simp only [Option.some.injEq, Prod.mk.injEq] at H
       obtain ⟨rfl, rfl, rfl⟩ := H
       go_wp2_with (first | ((with_reducible refine gate_callee (f := 83) rfl ?_); refine goesL_ (some 14) rfl rfl Tryz.func83 (by kernel_rfl) rfl #[.string x5_1] rfl (by (try simp only [List.map_toArray, List.map_cons, List.map_nil]); first | done | rfl | (simp only [List.length_drop, List.length_take]; rfl)) ?_; (with_reducible refine (broadsheetref05_First.calls k1 x5_1 t218 t219 _ A3.out).mono ?_); rintro e w' ⟨rfl, ⟨nd, rfl⟩⟩; refine ⟨_, rfl, ?_⟩))
       go_ret3
       exact ⟨by first | rfl | (simp [errW_none, errW_some] <;> rfl) | (simp [*, errW_none, errW_some] <;> rfl), by repeat (first | (with_reducible first | exact HB.out | apply below_alloc | apply pw_below_drewN | apply below_drew1) | exact HB.out)⟩
      ·rw [if_neg c5] at H
       have c5b0 : ((x5_1.size : Int) == (a0.size : Int)) = false := beq_eq_false_iff_ne.mpr c5
       have c5b1 : ((x5_1.size : Int) != (a0.size : Int)) = true := bne_iff_ne.mpr c5
       have c5b2 : (x5_1.size == a0.size) = false := by first | simpa using c5 | (simp at c5 ⊢; omega)
       obtain ⟨ji6, hji6⟩ : ∃ j_ : Int, (wrap64 ((a0.size : Int) - (x5_1.size : Int))) = j_ := ⟨_, rfl⟩
       replace H : (if 0 ≤ (ji6) then (if (ji6) ≤ (a0.size : Int) then (some (a0.extract 0 ((ji6) : Int).toNat, x5_1, 0)) else (none)) else (none)) = some (r1, r2, r3) := by first | (rw [hji6] at H; exact H) | (simp only [hji6] at H ⊢; exact H)
       (try rw [hji6] at A3)
       have hji6w : (IntKind.i64.wrap ((a0.size : Int) - (x5_1.size : Int))) = ji6 := (i64_w _).trans hji6
       by_cases c7 : 0 ≤ (ji6)
       ·rw [if_pos c7] at H
        have c7b0 := eq_true c7
        have c7b1 : decide (0 ≤ (ji6)) = true := decide_eq_true c7
        clear c7
        by_cases c8 : (ji6) ≤ (a0.size : Int)
        ·rw [if_pos c8] at H
         have c8b0 := eq_true c8
         have c8b1 : decide ((ji6) ≤ (a0.size : Int)) = true := decide_eq_true c8
         clear c8
         simp only [Option.some.injEq, Prod.mk.injEq] at H
         obtain ⟨rfl, rfl, rfl⟩ := H
         go_wp2_with (first | ((with_reducible refine gate_callee (f := 83) rfl ?_); refine goesL_ (some 14) rfl rfl Tryz.func83 (by kernel_rfl) rfl #[.string x5_1] rfl (by (try simp only [List.map_toArray, List.map_cons, List.map_nil]); first | done | rfl | (simp only [List.length_drop, List.length_take]; rfl)) ?_; (with_reducible refine (broadsheetref05_First.calls k1 x5_1 t218 t219 _ A3.out).mono ?_); rintro e w' ⟨rfl, ⟨nd, rfl⟩⟩; refine ⟨_, rfl, ?_⟩))
         go_ret3
         exact ⟨by first | rfl | (simp [errW_none, errW_some] <;> rfl) | (simp only [← hji6]; first | rfl | (simp [errW_none, errW_some] <;> rfl)) | (simp [*, errW_none, errW_some] <;> rfl), by repeat (first | (with_reducible first | exact HB.out | apply below_alloc | apply pw_below_drewN | apply below_drew1) | exact HB.out)⟩
        ·rw [if_neg c8] at H
         exact absurd H (by simp)
       ·rw [if_neg c7] at H
        exact absurd H (by simp)
     ·rw [if_neg c4] at H
      have c4b0 : (t219 == 0) = false := beq_eq_false_iff_ne.mpr c4
      have c4b1 : (t219 != 0) = true := bne_iff_ne.mpr c4
      replace H := Option.bind_eq_some_iff.mp H
      obtain ⟨t220, A90, H⟩ := H
      replace H : (if t220 = true then (if (x5_1.size : Int) = (a0.size : Int) then ((broadsheetref05_Start.f k1 t218).bind fun t221 => (if t221 = true then (if 0 ≤ t219 then (if t219 ≤ (x5_1.size : Int) then (broadsheetref05_Name.l0 k1 a0 (x5_1.extract (t219 : Int).toNat x5_1.size)) else (none)) else (none)) else (some ((⟨#[]⟩ : ByteArray), (⟨#[]⟩ : ByteArray), 51)))) else (if 0 ≤ t219 then (if t219 ≤ (x5_1.size : Int) then (broadsheetref05_Name.l0 k1 a0 (x5_1.extract (t219 : Int).toNat x5_1.size)) else (none)) else (none))) else (if (x5_1.size : Int) = (a0.size : Int) then (some ((⟨#[]⟩ : ByteArray), (⟨#[]⟩ : ByteArray), 51)) else (if 0 ≤ (wrap64 ((a0.size : Int) - (x5_1.size : Int))) then (if (wrap64 ((a0.size : Int) - (x5_1.size : Int))) ≤ (a0.size : Int) then (some (a0.extract 0 ((wrap64 ((a0.size : Int) - (x5_1.size : Int))) : Int).toNat, x5_1, 0)) else (none)) else (none)))) = some (r1, r2, r3) := H
      have A9 := Aside0.mk A90
      clear A90
      by_cases c10 : t220 = true
      ·subst c10
       have H1 : (if (x5_1.size : Int) = (a0.size : Int) then ((broadsheetref05_Start.f k1 t218).bind fun t221 => (if t221 = true then (if 0 ≤ t219 then (if t219 ≤ (x5_1.size : Int) then (broadsheetref05_Name.l0 k1 a0 (x5_1.extract (t219 : Int).toNat x5_1.size)) else (none)) else (none)) else (some ((⟨#[]⟩ : ByteArray), (⟨#[]⟩ : ByteArray), 51)))) else (if 0 ≤ t219 then (if t219 ≤ (x5_1.size : Int) then (broadsheetref05_Name.l0 k1 a0 (x5_1.extract (t219 : Int).toNat x5_1.size)) else (none)) else (none))) = some (r1, r2, r3) := by rw [if_pos rfl] at H; exact H
       clear H
       have H := H1
       clear H1
       by_cases c11 : (x5_1.size : Int) = (a0.size : Int)
       ·rw [if_pos c11] at H
        have c11b0 : ((x5_1.size : Int) == (a0.size : Int)) = true := beq_iff_eq.mpr c11
        have c11b1 : ((x5_1.size : Int) != (a0.size : Int)) = false := bne_eq_false_iff_eq.mpr c11
        have c11b2 : (x5_1.size == a0.size) = true := by first | simpa using c11 | (simp at c11 ⊢; omega)
        clear c11
        replace H := Option.bind_eq_some_iff.mp H
        obtain ⟨t221, A120, H⟩ := H
        replace H : (if t221 = true then (if 0 ≤ t219 then (if t219 ≤ (x5_1.size : Int) then (broadsheetref05_Name.l0 k1 a0 (x5_1.extract (t219 : Int).toNat x5_1.size)) else (none)) else (none)) else (some ((⟨#[]⟩ : ByteArray), (⟨#[]⟩ : ByteArray), 51))) = some (r1, r2, r3) := H
        have A12 := Aside0.mk A120
        clear A120
        by_cases c13 : t221 = true
        ·subst c13
         have H1 : (if 0 ≤ t219 then (if t219 ≤ (x5_1.size : Int) then (broadsheetref05_Name.l0 k1 a0 (x5_1.extract (t219 : Int).toNat x5_1.size)) else (none)) else (none)) = some (r1, r2, r3) := by rw [if_pos rfl] at H; exact H
         clear H
         have H := H1
         clear H1
         by_cases c14 : 0 ≤ t219
         ·rw [if_pos c14] at H
          have c14b0 := eq_true c14
          have c14b1 : decide (0 ≤ t219) = true := decide_eq_true c14
          clear c14
          by_cases c15 : t219 ≤ (x5_1.size : Int)
          ·rw [if_pos c15] at H
           have c15b0 := eq_true c15
           have c15b1 : decide (t219 ≤ (x5_1.size : Int)) = true := decide_eq_true c15
           clear c15
           have H' := Aside0.mk H
           clear H
           go_wp2_with (first | ((with_reducible refine gate_callee (f := 83) rfl ?_); refine goesL_ (some 14) rfl rfl Tryz.func83 (by kernel_rfl) rfl #[.string x5_1] rfl (by (try simp only [List.map_toArray, List.map_cons, List.map_nil]); first | done | rfl | (simp only [List.length_drop, List.length_take]; rfl)) ?_; (with_reducible refine (broadsheetref05_First.calls k1 x5_1 t218 t219 _ A3.out).mono ?_); rintro e w' ⟨rfl, ⟨nd, rfl⟩⟩; refine ⟨_, rfl, ?_⟩) | (go_at_call 86; (with_reducible refine (broadsheetref05_Part.calls k1 t218 true _ A9.out).mono ?_); rintro e w16 ⟨rfl, hb⟩; have n0_ := Aside0.mk (below_step (by repeat (first | (with_reducible first | exact HB.out | apply below_alloc | apply pw_below_drewN | apply below_drew1) | exact HB.out)) hb); clear HB; have HB := n0_; clear n0_; (try clear hb); (try clear hb2); (try clear hk); (try clear hi)) | (go_at_call 87; (with_reducible refine (broadsheetref05_Start.calls k1 t218 true _ A12.out).mono ?_); rintro e w17 ⟨rfl, hb⟩; have n0_ := Aside0.mk (below_step (by repeat (first | (with_reducible first | exact HB.out | apply below_alloc | apply pw_below_drewN | apply below_drew1) | exact HB.out)) hb); clear HB; have HB := n0_; clear n0_; (try clear hb); (try clear hb2); (try clear hk); (try clear hi)))
           go_roundg k1
           case measure => have := HK1.out; omega
           case rel => exact ⟨(x5_1.extract (t219 : Int).toNat x5_1.size), (by first | rfl | (simp; done) | (simp [*]; done) | (simp [xx_ne_nil, xx_eq_nil]; done) | (simp [*, xx_ne_nil, xx_eq_nil]; done)), H', ⟨by have := HK1.out; omega⟩, ⟨by repeat (first | (with_reducible first | exact HB.out | apply below_alloc | apply pw_below_drewN | apply below_drew1) | exact HB.out)⟩⟩
          ·rw [if_neg c15] at H
           exact absurd H (by simp)
         ·rw [if_neg c14] at H
          exact absurd H (by simp)
        ·replace c13 := Bool.eq_false_iff.mpr c13
         subst c13
         have H1 : (some ((⟨#[]⟩ : ByteArray), (⟨#[]⟩ : ByteArray), 51)) = some (r1, r2, r3) := by rw [if_neg (show ¬ (false = true) by decide)] at H; exact H
         clear H
         have H := H1
         clear H1
         simp only [Option.some.injEq, Prod.mk.injEq] at H
         obtain ⟨rfl, rfl, rfl⟩ := H
         go_wp2_with (first | ((with_reducible refine gate_callee (f := 83) rfl ?_); refine goesL_ (some 14) rfl rfl Tryz.func83 (by kernel_rfl) rfl #[.string x5_1] rfl (by (try simp only [List.map_toArray, List.map_cons, List.map_nil]); first | done | rfl | (simp only [List.length_drop, List.length_take]; rfl)) ?_; (with_reducible refine (broadsheetref05_First.calls k1 x5_1 t218 t219 _ A3.out).mono ?_); rintro e w' ⟨rfl, ⟨nd, rfl⟩⟩; refine ⟨_, rfl, ?_⟩) | (go_at_call 86; (with_reducible refine (broadsheetref05_Part.calls k1 t218 true _ A9.out).mono ?_); rintro e w18 ⟨rfl, hb⟩; have n0_ := Aside0.mk (below_step (by repeat (first | (with_reducible first | exact HB.out | apply below_alloc | apply pw_below_drewN | apply below_drew1) | exact HB.out)) hb); clear HB; have HB := n0_; clear n0_; (try clear hb); (try clear hb2); (try clear hk); (try clear hi)) | (go_at_call 87; (with_reducible refine (broadsheetref05_Start.calls k1 t218 false _ A12.out).mono ?_); rintro e w19 ⟨rfl, hb⟩; have n0_ := Aside0.mk (below_step (by repeat (first | (with_reducible first | exact HB.out | apply below_alloc | apply pw_below_drewN | apply below_drew1) | exact HB.out)) hb); clear HB; have HB := n0_; clear n0_; (try clear hb); (try clear hb2); (try clear hk); (try clear hi)))
         go_ret3
         exact ⟨by first | rfl | (simp [errW_none, errW_some] <;> rfl) | (simp [*, errW_none, errW_some] <;> rfl), by repeat (first | (with_reducible first | exact HB.out | apply below_alloc | apply pw_below_drewN | apply below_drew1) | exact HB.out)⟩
       ·rw [if_neg c11] at H
        have c11b0 : ((x5_1.size : Int) == (a0.size : Int)) = false := beq_eq_false_iff_ne.mpr c11
        have c11b1 : ((x5_1.size : Int) != (a0.size : Int)) = true := bne_iff_ne.mpr c11
        have c11b2 : (x5_1.size == a0.size) = false := by first | simpa using c11 | (simp at c11 ⊢; omega)
        by_cases c20 : 0 ≤ t219
        ·rw [if_pos c20] at H
         have c20b0 := eq_true c20
         have c20b1 : decide (0 ≤ t219) = true := decide_eq_true c20
         clear c20
         by_cases c21 : t219 ≤ (x5_1.size : Int)
         ·rw [if_pos c21] at H
          have c21b0 := eq_true c21
          have c21b1 : decide (t219 ≤ (x5_1.size : Int)) = true := decide_eq_true c21
          clear c21
          have H' := Aside0.mk H
          clear H
          go_wp2_with (first | ((with_reducible refine gate_callee (f := 83) rfl ?_); refine goesL_ (some 14) rfl rfl Tryz.func83 (by kernel_rfl) rfl #[.string x5_1] rfl (by (try simp only [List.map_toArray, List.map_cons, List.map_nil]); first | done | rfl | (simp only [List.length_drop, List.length_take]; rfl)) ?_; (with_reducible refine (broadsheetref05_First.calls k1 x5_1 t218 t219 _ A3.out).mono ?_); rintro e w' ⟨rfl, ⟨nd, rfl⟩⟩; refine ⟨_, rfl, ?_⟩) | (go_at_call 86; (with_reducible refine (broadsheetref05_Part.calls k1 t218 true _ A9.out).mono ?_); rintro e w22 ⟨rfl, hb⟩; have n0_ := Aside0.mk (below_step (by repeat (first | (with_reducible first | exact HB.out | apply below_alloc | apply pw_below_drewN | apply below_drew1) | exact HB.out)) hb); clear HB; have HB := n0_; clear n0_; (try clear hb); (try clear hb2); (try clear hk); (try clear hi)))
          go_roundg k1
          case measure => have := HK1.out; omega
          case rel => exact ⟨(x5_1.extract (t219 : Int).toNat x5_1.size), (by first | rfl | (simp; done) | (simp [*]; done) | (simp [xx_ne_nil, xx_eq_nil]; done) | (simp [*, xx_ne_nil, xx_eq_nil]; done)), H', ⟨by have := HK1.out; omega⟩, ⟨by repeat (first | (with_reducible first | exact HB.out | apply below_alloc | apply pw_below_drewN | apply below_drew1) | exact HB.out)⟩⟩
         ·rw [if_neg c21] at H
          exact absurd H (by simp)
        ·rw [if_neg c20] at H
         exact absurd H (by simp)
      ·replace c10 := Bool.eq_false_iff.mpr c10
       subst c10
       have H1 : (if (x5_1.size : Int) = (a0.size : Int) then (some ((⟨#[]⟩ : ByteArray), (⟨#[]⟩ : ByteArray), 51)) else (if 0 ≤ (wrap64 ((a0.size : Int) - (x5_1.size : Int))) then (if (wrap64 ((a0.size : Int) - (x5_1.size : Int))) ≤ (a0.size : Int) then (some (a0.extract 0 ((wrap64 ((a0.size : Int) - (x5_1.size : Int))) : Int).toNat, x5_1, 0)) else (none)) else (none))) = some (r1, r2, r3) := by rw [if_neg (show ¬ (false = true) by decide)] at H; exact H
       clear H
       have H := H1
       clear H1
       by_cases c23 : (x5_1.size : Int) = (a0.size : Int)
       ·rw [if_pos c23] at H
        have c23b0 : ((x5_1.size : Int) == (a0.size : Int)) = true := beq_iff_eq.mpr c23
        have c23b1 : ((x5_1.size : Int) != (a0.size : Int)) = false := bne_eq_false_iff_eq.mpr c23
        have c23b2 : (x5_1.size == a0.size) = true := by first | simpa using c23 | (simp at c23 ⊢; omega)
        clear c23
        simp only [Option.some.injEq, Prod.mk.injEq] at H
        obtain ⟨rfl, rfl, rfl⟩ := H
        go_wp2_with (first | ((with_reducible refine gate_callee (f := 83) rfl ?_); refine goesL_ (some 14) rfl rfl Tryz.func83 (by kernel_rfl) rfl #[.string x5_1] rfl (by (try simp only [List.map_toArray, List.map_cons, List.map_nil]); first | done | rfl | (simp only [List.length_drop, List.length_take]; rfl)) ?_; (with_reducible refine (broadsheetref05_First.calls k1 x5_1 t218 t219 _ A3.out).mono ?_); rintro e w' ⟨rfl, ⟨nd, rfl⟩⟩; refine ⟨_, rfl, ?_⟩) | (go_at_call 86; (with_reducible refine (broadsheetref05_Part.calls k1 t218 false _ A9.out).mono ?_); rintro e w24 ⟨rfl, hb⟩; have n0_ := Aside0.mk (below_step (by repeat (first | (with_reducible first | exact HB.out | apply below_alloc | apply pw_below_drewN | apply below_drew1) | exact HB.out)) hb); clear HB; have HB := n0_; clear n0_; (try clear hb); (try clear hb2); (try clear hk); (try clear hi)))
        go_ret3
        exact ⟨by first | rfl | (simp [errW_none, errW_some] <;> rfl) | (simp [*, errW_none, errW_some] <;> rfl), by repeat (first | (with_reducible first | exact HB.out | apply below_alloc | apply pw_below_drewN | apply below_drew1) | exact HB.out)⟩
       ·rw [if_neg c23] at H
        have c23b0 : ((x5_1.size : Int) == (a0.size : Int)) = false := beq_eq_false_iff_ne.mpr c23
        have c23b1 : ((x5_1.size : Int) != (a0.size : Int)) = true := bne_iff_ne.mpr c23
        have c23b2 : (x5_1.size == a0.size) = false := by first | simpa using c23 | (simp at c23 ⊢; omega)
        obtain ⟨ji25, hji25⟩ : ∃ j_ : Int, (wrap64 ((a0.size : Int) - (x5_1.size : Int))) = j_ := ⟨_, rfl⟩
        replace H : (if 0 ≤ (ji25) then (if (ji25) ≤ (a0.size : Int) then (some (a0.extract 0 ((ji25) : Int).toNat, x5_1, 0)) else (none)) else (none)) = some (r1, r2, r3) := by first | (rw [hji25] at H; exact H) | (simp only [hji25] at H ⊢; exact H)
        (try rw [hji25] at A3)
        (try rw [hji25] at A9)
        have hji25w : (IntKind.i64.wrap ((a0.size : Int) - (x5_1.size : Int))) = ji25 := (i64_w _).trans hji25
        by_cases c26 : 0 ≤ (ji25)
        ·rw [if_pos c26] at H
         have c26b0 := eq_true c26
         have c26b1 : decide (0 ≤ (ji25)) = true := decide_eq_true c26
         clear c26
         by_cases c27 : (ji25) ≤ (a0.size : Int)
         ·rw [if_pos c27] at H
          have c27b0 := eq_true c27
          have c27b1 : decide ((ji25) ≤ (a0.size : Int)) = true := decide_eq_true c27
          clear c27
          simp only [Option.some.injEq, Prod.mk.injEq] at H
          obtain ⟨rfl, rfl, rfl⟩ := H
          go_wp2_with (first | ((with_reducible refine gate_callee (f := 83) rfl ?_); refine goesL_ (some 14) rfl rfl Tryz.func83 (by kernel_rfl) rfl #[.string x5_1] rfl (by (try simp only [List.map_toArray, List.map_cons, List.map_nil]); first | done | rfl | (simp only [List.length_drop, List.length_take]; rfl)) ?_; (with_reducible refine (broadsheetref05_First.calls k1 x5_1 t218 t219 _ A3.out).mono ?_); rintro e w' ⟨rfl, ⟨nd, rfl⟩⟩; refine ⟨_, rfl, ?_⟩) | (go_at_call 86; (with_reducible refine (broadsheetref05_Part.calls k1 t218 false _ A9.out).mono ?_); rintro e w28 ⟨rfl, hb⟩; have n0_ := Aside0.mk (below_step (by repeat (first | (with_reducible first | exact HB.out | apply below_alloc | apply pw_below_drewN | apply below_drew1) | exact HB.out)) hb); clear HB; have HB := n0_; clear n0_; (try clear hb); (try clear hb2); (try clear hk); (try clear hi)))
          go_ret3
          exact ⟨by first | rfl | (simp [errW_none, errW_some] <;> rfl) | (simp only [← hji25]; first | rfl | (simp [errW_none, errW_some] <;> rfl)) | (simp [*, errW_none, errW_some] <;> rfl), by repeat (first | (with_reducible first | exact HB.out | apply below_alloc | apply pw_below_drewN | apply below_drew1) | exact HB.out)⟩
         ·rw [if_neg c27] at H
          exact absurd H (by simp)
        ·rw [if_neg c26] at H
         exact absurd H (by simp)
    ·rw [if_neg c2] at H
     have c2b0 : decide (0 < (x5_1.size : Int)) = false := decide_eq_false c2
     have c2b1 : decide (0 < x5_1.size) = false := decide_eq_false (by omega)
     clear c2
     by_cases c29 : (x5_1.size : Int) = (a0.size : Int)
     ·rw [if_pos c29] at H
      have c29b0 : ((x5_1.size : Int) == (a0.size : Int)) = true := beq_iff_eq.mpr c29
      have c29b1 : ((x5_1.size : Int) != (a0.size : Int)) = false := bne_eq_false_iff_eq.mpr c29
      have c29b2 : (x5_1.size == a0.size) = true := by first | simpa using c29 | (simp at c29 ⊢; omega)
      clear c29
      simp only [Option.some.injEq, Prod.mk.injEq] at H
      obtain ⟨rfl, rfl, rfl⟩ := H
      go_wp2
      go_ret3
      exact ⟨by first | rfl | (simp [errW_none, errW_some] <;> rfl) | (simp [*, errW_none, errW_some] <;> rfl), by repeat (first | (with_reducible first | exact HB.out | apply below_alloc | apply pw_below_drewN | apply below_drew1) | exact HB.out)⟩
     ·rw [if_neg c29] at H
      have c29b0 : ((x5_1.size : Int) == (a0.size : Int)) = false := beq_eq_false_iff_ne.mpr c29
      have c29b1 : ((x5_1.size : Int) != (a0.size : Int)) = true := bne_iff_ne.mpr c29
      have c29b2 : (x5_1.size == a0.size) = false := by first | simpa using c29 | (simp at c29 ⊢; omega)
      obtain ⟨ji30, hji30⟩ : ∃ j_ : Int, (wrap64 ((a0.size : Int) - (x5_1.size : Int))) = j_ := ⟨_, rfl⟩
      replace H : (if 0 ≤ (ji30) then (if (ji30) ≤ (a0.size : Int) then (some (a0.extract 0 ((ji30) : Int).toNat, x5_1, 0)) else (none)) else (none)) = some (r1, r2, r3) := by first | (rw [hji30] at H; exact H) | (simp only [hji30] at H ⊢; exact H)
      have hji30w : (IntKind.i64.wrap ((a0.size : Int) - (x5_1.size : Int))) = ji30 := (i64_w _).trans hji30
      by_cases c31 : 0 ≤ (ji30)
      ·rw [if_pos c31] at H
       have c31b0 := eq_true c31
       have c31b1 : decide (0 ≤ (ji30)) = true := decide_eq_true c31
       clear c31
       by_cases c32 : (ji30) ≤ (a0.size : Int)
       ·rw [if_pos c32] at H
        have c32b0 := eq_true c32
        have c32b1 : decide ((ji30) ≤ (a0.size : Int)) = true := decide_eq_true c32
        clear c32
        simp only [Option.some.injEq, Prod.mk.injEq] at H
        obtain ⟨rfl, rfl, rfl⟩ := H
        go_wp2
        go_ret3
        exact ⟨by first | rfl | (simp [errW_none, errW_some] <;> rfl) | (simp only [← hji30]; first | rfl | (simp [errW_none, errW_some] <;> rfl)) | (simp [*, errW_none, errW_some] <;> rfl), by repeat (first | (with_reducible first | exact HB.out | apply below_alloc | apply pw_below_drewN | apply below_drew1) | exact HB.out)⟩
       ·rw [if_neg c32] at H
        exact absurd H (by simp)
      ·rw [if_neg c31] at H
       exact absurd H (by simp)
mutual
def broadsheetref05_Plain.j0 : Nat → ByteArray → Bool → Option (Bool)
 | 0, _, _ => none
 | k + 1, x3, x18 => if x18 = true then (some false) else (broadsheetref05_Plain.l0 k x3 0)
def broadsheetref05_Plain.l0 : Nat → ByteArray → Int → Option (Bool)
 | 0, _, _ => none
 | k + 1, x3, x6 => if x6 < (x3.size : Int) then (if 0 ≤ x6 then (if (bt x3 x6) = 58 then (some false) else (broadsheetref05_Plain.l0 k x3 (wrap64 (x6 + 1)))) else (none)) else (some true)
end
def broadsheetref05_Plain.f (k : Nat) (a0 : ByteArray) : Option (Bool) := (broadsheetref05_Name.f k a0).bind fun bt222 => (if bt222.2.2 = 0 then (broadsheetref05_Plain.j0 k bt222.1 (bt222.2.1.toList != ([] : List UInt8))) else (broadsheetref05_Plain.j0 k bt222.1 true))
set_option maxHeartbeats 8000000 in
set_option maxRecDepth 100000 in
theorem broadsheetref05_Plain.calls (k : Nat) (a0 : ByteArray) (r : Bool) (w : World) (h : broadsheetref05_Plain.f k a0 = some r) :
  Calls Tryz.prog 29 #[.string a0] w fun e w' => e = .returned (.bool r) ∧ Below w.heap.size w w' := by
 have HB := Aside0.mk (Below.refl w.heap.size w)
 have H : ((broadsheetref05_Name.f k a0).bind fun bt222 => (if bt222.2.2 = 0 then (broadsheetref05_Plain.j0 k bt222.1 (bt222.2.1.toList != ([] : List UInt8))) else (broadsheetref05_Plain.j0 k bt222.1 true))) = some r := h
 clear h
 replace H := Option.bind_eq_some_iff.mp H
 obtain ⟨⟨t222, t223, t224⟩, A20, H⟩ := H
 replace H : (if t224 = 0 then (broadsheetref05_Plain.j0 k t222 (t223.toList != ([] : List UInt8))) else (broadsheetref05_Plain.j0 k t222 true)) = some r := H
 have A2 := Aside0.mk A20
 clear A20
 have HC3 := Aside0.mk H
 clear H
 go_enter Tryz.func29, Tryz.ntmps29
 go_upto_region 2 with (first | ((with_reducible refine gate_callee (f := 54) rfl ?_); refine goesL_ (some 9) rfl rfl Tryz.func54 (by kernel_rfl) rfl #[.string a0] rfl (by (try simp only [List.map_toArray, List.map_cons, List.map_nil]); first | done | rfl | (simp only [List.length_drop, List.length_take]; rfl)) ?_; (with_reducible refine (broadsheetref05_Name.calls k a0 t222 t223 t224 _ A2.out).mono ?_); rintro e w4 ⟨rfl, hb⟩; refine ⟨_, rfl, ?_⟩; have n0_ := Aside0.mk (below_step (by repeat (first | (with_reducible first | exact HB.out | apply below_alloc | apply pw_below_drewN | apply below_drew1) | exact HB.out)) hb); clear HB; have HB := n0_; clear n0_; (try clear hb); (try clear hb2); (try clear hk); (try clear hi)))
 (try simp only [Act.put, List.setIfInBounds_toArray, List.set_cons_zero, List.set_cons_succ])
 go_cut [18] (fun v18 wc => ∃ (kq : Nat) (x18_2 : Bool), v18 = .bool x18_2 ∧ Aside0 (broadsheetref05_Plain.j0 kq t222 x18_2 = some r) ∧ Aside0 (kq ≤ k) ∧ Aside0 (Below w.heap.size w wc))
 case first =>
  have H := HC3.out
  clear HC3
  by_cases c5 : t224 = 0
  ·rw [if_pos c5] at H
   have c5b0 : (t224 == 0) = true := beq_iff_eq.mpr c5
   have c5b1 : (t224 != 0) = false := bne_eq_false_iff_eq.mpr c5
   clear c5
   (first | rw [c5b0] | (simp only [i64_w, i32_w]; rw [c5b0]) | skip)
   have H' := Aside0.mk H
   clear H
   go_wp2
   go_meet
   case rel => exact ⟨_, ((t223.toList != ([] : List UInt8))), (by first | rfl | (simp; done) | (simp [*]; done) | (simp [xx_ne_nil, xx_eq_nil]; done) | (simp [*, xx_ne_nil, xx_eq_nil]; done)), H', ⟨by first | omega | exact Nat.le_refl _⟩, ⟨by repeat (first | (with_reducible first | exact HB.out | apply below_alloc | apply pw_below_drewN | apply below_drew1) | exact HB.out)⟩⟩
  ·rw [if_neg c5] at H
   have c5b0 : (t224 == 0) = false := beq_eq_false_iff_ne.mpr c5
   have c5b1 : (t224 != 0) = true := bne_iff_ne.mpr c5
   (first | rw [c5b0] | (simp only [i64_w, i32_w]; rw [c5b0]) | skip)
   have H' := Aside0.mk H
   clear H
   go_wp2
   go_meet
   case rel => exact ⟨_, (true), (by first | rfl | (simp; done) | (simp [*]; done) | (simp [xx_ne_nil, xx_eq_nil]; done) | (simp [*, xx_ne_nil, xx_eq_nil]; done)), H', ⟨by first | omega | exact Nat.le_refl _⟩, ⟨by repeat (first | (with_reducible first | exact HB.out | apply below_alloc | apply pw_below_drewN | apply below_drew1) | exact HB.out)⟩⟩
 case rest =>
  clear HC3
  try clear c2
  try clear p2
  try clear c5
  try clear c5b0
  try clear c5b1
  obtain ⟨kq, x18_2, rfl, HA, HJ2, HB⟩ := hcut
  cases kq with
  | zero => exact absurd HA.out (by simp [broadsheetref05_Plain.j0])
  | succ kj2 =>
    have H := HA.out
    clear HA
    simp only [broadsheetref05_Plain.j0] at H
    by_cases c6 : x18_2 = true
    ·subst c6
     have H1 : (some false) = some r := by rw [if_pos rfl] at H; exact H
     clear H
     have H := H1
     clear H1
     obtain rfl := Option.some.inj H
     go_wp2
     go_ret
     exact ⟨by first | rfl | (simp [errW_none, errW_some] <;> rfl) | (simp [*, errW_none, errW_some] <;> rfl), by repeat (first | (with_reducible first | exact HB.out | apply below_alloc | apply pw_below_drewN | apply below_drew1) | exact HB.out)⟩
    ·replace c6 := Bool.eq_false_iff.mpr c6
     subst c6
     have H1 : (broadsheetref05_Plain.l0 kj2 t222 0) = some r := by rw [if_neg (show ¬ (false = true) by decide)] at H; exact H
     clear H
     have H := H1
     clear H1
     have H' := Aside0.mk H
     clear H
     go_wp2
     go_loopg [6] kj2 (fun kq v6 w' => ∃ (x6_2 : Int), v6 = .int .i64 x6_2 ∧ Aside0 (broadsheetref05_Plain.l0 kq t222 x6_2 = some r) ∧ Aside0 (kq ≤ kj2) ∧ Aside0 (Below w.heap.size w w'))
     case atStart => exact ⟨(0), (by first | rfl | (simp; done) | (simp [*]; done) | (simp [xx_ne_nil, xx_eq_nil]; done) | (simp [*, xx_ne_nil, xx_eq_nil]; done)), H', ⟨Nat.le_refl _⟩, ⟨by repeat (first | (with_reducible first | exact HB.out | apply below_alloc | apply pw_below_drewN | apply below_drew1) | exact HB.out)⟩⟩
     case round =>
      clear H'
      try clear c2
      try clear p2
      try clear c5
      try clear c5b0
      try clear c5b1
      try clear c6
      try clear p2
      obtain ⟨x6_2, rfl, HA, HK2, HB⟩ := hrel
      cases gk with
      | zero => exact absurd HA.out (by simp [broadsheetref05_Plain.l0])
      | succ k2 =>
        have H := HA.out
        clear HA
        simp only [broadsheetref05_Plain.l0] at H
        by_cases c7 : x6_2 < (t222.size : Int)
        ·rw [if_pos c7] at H
         have c7b0 : decide (x6_2 < (t222.size : Int)) = true := decide_eq_true c7
         clear c7
         by_cases c8 : 0 ≤ x6_2
         ·rw [if_pos c8] at H
          have c8b0 : decide (0 ≤ x6_2) = true := decide_eq_true c8
          clear c8
          by_cases c10 : (bt t222 x6_2) = 58
          ·rw [if_pos c10] at H
           have c10b0 : ((bt t222 x6_2) == 58) = true := beq_iff_eq.mpr c10
           have c10b1 : ((bt t222 x6_2) != 58) = false := bne_eq_false_iff_eq.mpr c10
           clear c10
           obtain rfl := Option.some.inj H
           have p9 : 0 ≤ (x6_2 : Int) := of_decide_eq_true (by first | (with_reducible assumption) | assumption)
           have q9 : x6_2 < (t222.size : Int) := of_decide_eq_true (by first | (with_reducible assumption) | assumption)
           have hx9 := bt_at t222 x6_2
           replace p9 := eq_true p9
           replace q9 := eq_true q9
           go_wp2
           go_ret
           exact ⟨by first | rfl | (simp [errW_none, errW_some] <;> rfl) | (simp [*, errW_none, errW_some] <;> rfl), by repeat (first | (with_reducible first | exact HB.out | apply below_alloc | apply pw_below_drewN | apply below_drew1) | exact HB.out)⟩
          ·rw [if_neg c10] at H
           have c10b0 : ((bt t222 x6_2) == 58) = false := beq_eq_false_iff_ne.mpr c10
           have c10b1 : ((bt t222 x6_2) != 58) = true := bne_iff_ne.mpr c10
           have H' := Aside0.mk H
           clear H
           have p9 : 0 ≤ (x6_2 : Int) := of_decide_eq_true (by first | (with_reducible assumption) | assumption)
           have q9 : x6_2 < (t222.size : Int) := of_decide_eq_true (by first | (with_reducible assumption) | assumption)
           have hx9 := bt_at t222 x6_2
           replace p9 := eq_true p9
           replace q9 := eq_true q9
           go_wp2
           go_roundg k2
           case measure => have := HJ2.out; have := HK2.out; omega
           case rel => exact ⟨(wrap64 (x6_2 + 1)), (by first | rfl | (simp; done) | (simp [*]; done) | (simp [xx_ne_nil, xx_eq_nil]; done) | (simp [*, xx_ne_nil, xx_eq_nil]; done)), H', ⟨by have := HJ2.out; have := HK2.out; omega⟩, ⟨by repeat (first | (with_reducible first | exact HB.out | apply below_alloc | apply pw_below_drewN | apply below_drew1) | exact HB.out)⟩⟩
         ·rw [if_neg c8] at H
          exact absurd H (by simp)
        ·rw [if_neg c7] at H
         have c7b0 : decide (x6_2 < (t222.size : Int)) = false := decide_eq_false c7
         clear c7
         obtain rfl := Option.some.inj H
         go_wp2
         go_ret
         exact ⟨by first | rfl | (simp [errW_none, errW_some] <;> rfl) | (simp [*, errW_none, errW_some] <;> rfl), by repeat (first | (with_reducible first | exact HB.out | apply below_alloc | apply pw_below_drewN | apply below_drew1) | exact HB.out)⟩
def broadsheetref05_Char.f (k : Nat) (a0 : Int) : Option (Bool) := (broadsheetref05_in.f k a0 (([9, 10, 13, 13, 32, 55295, 57344, 65533, 65536, 1114111] : List Int))).bind fun t228 => (some t228)
set_option maxHeartbeats 8000000 in
set_option maxRecDepth 100000 in
theorem broadsheetref05_Char.calls (k : Nat) (a0 : Int) (r : Bool) (w : World) (h : broadsheetref05_Char.f k a0 = some r) :
  Calls Tryz.prog 84 #[.int .i64 a0] w fun e w' => e = .returned (.bool r) ∧ Below w.heap.size w w' := by
 have HB := Aside0.mk (Below.refl w.heap.size w)
 have H : ((broadsheetref05_in.f k a0 (([9, 10, 13, 13, 32, 55295, 57344, 65533, 65536, 1114111] : List Int))).bind fun t228 => (some t228)) = some r := h
 clear h
 obtain ⟨y225, hy225⟩ : ∃ y_ : List Int, y_ = (([9, 10, 13, 13, 32, 55295, 57344, 65533, 65536, 1114111] : List Int)) := ⟨_, rfl⟩
 replace H : ((broadsheetref05_in.f k a0 y225).bind fun t228 => (some t228)) = some r := by first | (rw [hy225]; with_reducible exact H) | (have H2_ := (Option.bind_some _ _).symm.trans H; rw [hy225]; with_reducible exact H2_) | (have H2_ := (Option.bind_some _ _).symm.trans H; with_reducible exact H2_) | with_reducible exact H | (rw [hy225]; exact H) | exact H
 have Ny225 := Aside0.mk hy225
 clear hy225
 replace H := Option.bind_eq_some_iff.mp H
 obtain ⟨t228, A20, H⟩ := H
 replace H : (some t228) = some r := H
 have A2 := Aside0.mk A20
 clear A20
 obtain rfl := Option.some.inj H
 go_enter Tryz.func84, Tryz.ntmps84
 go_wp2_with (first | ((with_reducible refine gate_dst (N := 4) rfl ?_); refine Kd.R_lit (Kd.int .i64) _ 3 ?hg (N := 4) ?hd (xs := ([9, 10, 13, 13, 32, 55295, 57344, 65533, 65536, 1114111] : List Int)) (inner := [.int .i64 9, .int .i64 10, .int .i64 13, .int .i64 13, .int .i64 32, .int .i64 55295, .int .i64 57344, .int .i64 65533, .int .i64 65536, .int .i64 1114111]) (ok := fun _ => True) (okp := fun _ => True) ?hr ?hp (fun _ hk => hk) trivial (Below.refl _ _) (Nat.le_refl _) (by simp) ?_; (case hd => rfl); (case hg => rfl); (case hr => first | (go_simp; done) | (go_simp; rfl)); (case hp => exact (Reps.one (show Kd.M (Kd.int .i64) _ _ _ 9 [.int .i64 9] from rfl) (Reps.one (show Kd.M (Kd.int .i64) _ _ _ 10 [.int .i64 10] from rfl) (Reps.one (show Kd.M (Kd.int .i64) _ _ _ 13 [.int .i64 13] from rfl) (Reps.one (show Kd.M (Kd.int .i64) _ _ _ 13 [.int .i64 13] from rfl) (Reps.one (show Kd.M (Kd.int .i64) _ _ _ 32 [.int .i64 32] from rfl) (Reps.one (show Kd.M (Kd.int .i64) _ _ _ 55295 [.int .i64 55295] from rfl) (Reps.one (show Kd.M (Kd.int .i64) _ _ _ 57344 [.int .i64 57344] from rfl) (Reps.one (show Kd.M (Kd.int .i64) _ _ _ 65533 [.int .i64 65533] from rfl) (Reps.one (show Kd.M (Kd.int .i64) _ _ _ 65536 [.int .i64 65536] from rfl) (Reps.one (show Kd.M (Kd.int .i64) _ _ _ 1114111 [.int .i64 1114111] from rfl) (Reps.none _ _)))))))))))); intro v226 w3 ho4 hb hg_ hnew_; clear hg_ hnew_; (first | rw [← Ny225.out] at ho4 | (simp only [Int.reduceToNat] at ho4; rw [← Ny225.out] at ho4)); have n0_ := Aside0.mk (Kd.R_lower ho4 (below_size (by repeat (first | (with_reducible first | exact HB.out | apply below_alloc | apply pw_below_drewN | apply below_drew1) | exact HB.out)))); have n1_ := Aside0.mk (below_step (by repeat (first | (with_reducible first | exact HB.out | apply below_alloc | apply pw_below_drewN | apply below_drew1) | exact HB.out)) hb); clear HB; have HO227 := n0_; have HB := n1_; clear n0_ n1_; clear hb ho4; obtain ⟨Ao5, co5, eo5⟩ := Kd.R_slice HO227.out; subst eo5) | ((with_reducible refine gate_callee (f := 123) rfl ?_); refine goesL_ (some 5) rfl rfl Tryz.func123 (by kernel_rfl) rfl #[.int .i64 a0, .slice Ao5 y225.length co5] rfl (by (try simp only [List.map_toArray, List.map_cons, List.map_nil]); first | done | rfl | (simp only [List.length_drop, List.length_take]; rfl)) ?_; (with_reducible refine (broadsheetref05_in.calls k a0 _ _ y225 t228 _ ?side1 ?side2 A2.out).mono ?_); (case side1 => repeat (first | exact (Kd.R_reads' HO227.out).2.2 | (with_reducible refine Kd.C_alloc ?_ _) | (with_reducible refine Kd.C_drewN ?_ _) | (with_reducible refine Kd.C_drew ?_))); (case side2 => exact (Kd.R_reads' HO227.out).2.1); rintro e w' ⟨rfl, ⟨nd, rfl⟩⟩; refine ⟨_, rfl, ?_⟩))
 go_ret
 exact ⟨by first | rfl | (simp [errW_none, errW_some] <;> rfl) | (simp [*, errW_none, errW_some] <;> rfl), by repeat (first | (with_reducible first | exact HB.out | apply below_alloc | apply pw_below_drewN | apply below_drew1) | exact HB.out)⟩
def broadsheetref05_Check.l0 : Nat → ByteArray → Option (Int)
 | 0, _ => none
 | k + 1, x0 => if (x0.size : Int) > 0 then ((broadsheetref05_First.f k x0).bind fun bt229 => (if bt229.2 = 0 then (some 50) else ((broadsheetref05_Char.f k bt229.1).bind fun t231 => (if t231 = true then (if 0 ≤ bt229.2 then (if bt229.2 ≤ (x0.size : Int) then (broadsheetref05_Check.l0 k (x0.extract (bt229.2 : Int).toNat x0.size)) else (none)) else (none)) else (some 50))))) else (some 0)
def broadsheetref05_Check.f (k : Nat) (a0 : ByteArray) : Option (Int) := broadsheetref05_Check.l0 k a0
set_option maxHeartbeats 8000000 in
set_option maxRecDepth 100000 in
theorem broadsheetref05_Check.calls (k : Nat) (a0 : ByteArray) (r : Int) (w : World) (h : broadsheetref05_Check.f k a0 = some r) :
  Calls Tryz.prog 50 #[.string a0] w fun e w' => e = .returned (.int .i64 r) ∧ Below w.heap.size w w' := by
 have HB := Aside0.mk (Below.refl w.heap.size w)
 have H : (broadsheetref05_Check.l0 k a0) = some r := h
 clear h
 have H' := Aside0.mk H
 clear H
 go_enter Tryz.func50, Tryz.ntmps50
 go_wp2
 go_loopg [0] k (fun kq v0 w' => ∃ (x0_1 : ByteArray), v0 = .string x0_1 ∧ Aside0 (broadsheetref05_Check.l0 kq x0_1 = some r) ∧ Aside0 (kq ≤ k) ∧ Aside0 (Below w.heap.size w w'))
 case atStart => exact ⟨(a0), (by first | rfl | (simp; done) | (simp [*]; done) | (simp [xx_ne_nil, xx_eq_nil]; done) | (simp [*, xx_ne_nil, xx_eq_nil]; done)), H', ⟨Nat.le_refl _⟩, ⟨by repeat (first | (with_reducible first | exact HB.out | apply below_alloc | apply pw_below_drewN | apply below_drew1) | exact HB.out)⟩⟩
 case round =>
  clear H'
  obtain ⟨x0_1, rfl, HA, HK1, HB⟩ := hrel
  cases gk with
  | zero => exact absurd HA.out (by simp [broadsheetref05_Check.l0])
  | succ k1 =>
    have H := HA.out
    clear HA
    simp only [broadsheetref05_Check.l0] at H
    by_cases c2 : (x0_1.size : Int) > 0
    ·rw [if_pos c2] at H
     have c2b0 : decide (0 < (x0_1.size : Int)) = true := decide_eq_true c2
     have c2b1 : decide (0 < x0_1.size) = true := decide_eq_true (by omega)
     clear c2
     replace H := Option.bind_eq_some_iff.mp H
     obtain ⟨⟨t229, t230⟩, A30, H⟩ := H
     replace H : (if t230 = 0 then (some 50) else ((broadsheetref05_Char.f k1 t229).bind fun t231 => (if t231 = true then (if 0 ≤ t230 then (if t230 ≤ (x0_1.size : Int) then (broadsheetref05_Check.l0 k1 (x0_1.extract (t230 : Int).toNat x0_1.size)) else (none)) else (none)) else (some 50)))) = some r := H
     have A3 := Aside0.mk A30
     clear A30
     by_cases c4 : t230 = 0
     ·rw [if_pos c4] at H
      have c4b0 : (t230 == 0) = true := beq_iff_eq.mpr c4
      have c4b1 : (t230 != 0) = false := bne_eq_false_iff_eq.mpr c4
      clear c4
      obtain rfl := Option.some.inj H
      go_wp2_with (first | ((with_reducible refine gate_callee (f := 83) rfl ?_); refine goesL_ (some 10) rfl rfl Tryz.func83 (by kernel_rfl) rfl #[.string x0_1] rfl (by (try simp only [List.map_toArray, List.map_cons, List.map_nil]); first | done | rfl | (simp only [List.length_drop, List.length_take]; rfl)) ?_; (with_reducible refine (broadsheetref05_First.calls k1 x0_1 t229 t230 _ A3.out).mono ?_); rintro e w' ⟨rfl, ⟨nd, rfl⟩⟩; refine ⟨_, rfl, ?_⟩))
      go_ret
      exact ⟨by first | rfl | (simp [errW_none, errW_some] <;> rfl) | (simp [*, errW_none, errW_some] <;> rfl), by repeat (first | (with_reducible first | exact HB.out | apply below_alloc | apply pw_below_drewN | apply below_drew1) | exact HB.out)⟩
     ·rw [if_neg c4] at H
      have c4b0 : (t230 == 0) = false := beq_eq_false_iff_ne.mpr c4
      have c4b1 : (t230 != 0) = true := bne_iff_ne.mpr c4
      replace H := Option.bind_eq_some_iff.mp H
      obtain ⟨t231, A50, H⟩ := H
      replace H : (if t231 = true then (if 0 ≤ t230 then (if t230 ≤ (x0_1.size : Int) then (broadsheetref05_Check.l0 k1 (x0_1.extract (t230 : Int).toNat x0_1.size)) else (none)) else (none)) else (some 50)) = some r := H
      have A5 := Aside0.mk A50
      clear A50
      by_cases c6 : t231 = true
      ·subst c6
       have H1 : (if 0 ≤ t230 then (if t230 ≤ (x0_1.size : Int) then (broadsheetref05_Check.l0 k1 (x0_1.extract (t230 : Int).toNat x0_1.size)) else (none)) else (none)) = some r := by rw [if_pos rfl] at H; exact H
       clear H
       have H := H1
       clear H1
       by_cases c7 : 0 ≤ t230
       ·rw [if_pos c7] at H
        have c7b0 := eq_true c7
        have c7b1 : decide (0 ≤ t230) = true := decide_eq_true c7
        clear c7
        by_cases c8 : t230 ≤ (x0_1.size : Int)
        ·rw [if_pos c8] at H
         have c8b0 := eq_true c8
         have c8b1 : decide (t230 ≤ (x0_1.size : Int)) = true := decide_eq_true c8
         clear c8
         have H' := Aside0.mk H
         clear H
         go_wp2_with (first | ((with_reducible refine gate_callee (f := 83) rfl ?_); refine goesL_ (some 10) rfl rfl Tryz.func83 (by kernel_rfl) rfl #[.string x0_1] rfl (by (try simp only [List.map_toArray, List.map_cons, List.map_nil]); first | done | rfl | (simp only [List.length_drop, List.length_take]; rfl)) ?_; (with_reducible refine (broadsheetref05_First.calls k1 x0_1 t229 t230 _ A3.out).mono ?_); rintro e w' ⟨rfl, ⟨nd, rfl⟩⟩; refine ⟨_, rfl, ?_⟩) | (go_at_call 84; (with_reducible refine (broadsheetref05_Char.calls k1 t229 true _ A5.out).mono ?_); rintro e w9 ⟨rfl, hb⟩; have n0_ := Aside0.mk (below_step (by repeat (first | (with_reducible first | exact HB.out | apply below_alloc | apply pw_below_drewN | apply below_drew1) | exact HB.out)) hb); clear HB; have HB := n0_; clear n0_; (try clear hb); (try clear hb2); (try clear hk); (try clear hi)))
         go_roundg k1
         case measure => have := HK1.out; omega
         case rel => exact ⟨(x0_1.extract (t230 : Int).toNat x0_1.size), (by first | rfl | (simp; done) | (simp [*]; done) | (simp [xx_ne_nil, xx_eq_nil]; done) | (simp [*, xx_ne_nil, xx_eq_nil]; done)), H', ⟨by have := HK1.out; omega⟩, ⟨by repeat (first | (with_reducible first | exact HB.out | apply below_alloc | apply pw_below_drewN | apply below_drew1) | exact HB.out)⟩⟩
        ·rw [if_neg c8] at H
         exact absurd H (by simp)
       ·rw [if_neg c7] at H
        exact absurd H (by simp)
      ·replace c6 := Bool.eq_false_iff.mpr c6
       subst c6
       have H1 : (some 50) = some r := by rw [if_neg (show ¬ (false = true) by decide)] at H; exact H
       clear H
       have H := H1
       clear H1
       obtain rfl := Option.some.inj H
       go_wp2_with (first | ((with_reducible refine gate_callee (f := 83) rfl ?_); refine goesL_ (some 10) rfl rfl Tryz.func83 (by kernel_rfl) rfl #[.string x0_1] rfl (by (try simp only [List.map_toArray, List.map_cons, List.map_nil]); first | done | rfl | (simp only [List.length_drop, List.length_take]; rfl)) ?_; (with_reducible refine (broadsheetref05_First.calls k1 x0_1 t229 t230 _ A3.out).mono ?_); rintro e w' ⟨rfl, ⟨nd, rfl⟩⟩; refine ⟨_, rfl, ?_⟩) | (go_at_call 84; (with_reducible refine (broadsheetref05_Char.calls k1 t229 false _ A5.out).mono ?_); rintro e w10 ⟨rfl, hb⟩; have n0_ := Aside0.mk (below_step (by repeat (first | (with_reducible first | exact HB.out | apply below_alloc | apply pw_below_drewN | apply below_drew1) | exact HB.out)) hb); clear HB; have HB := n0_; clear n0_; (try clear hb); (try clear hb2); (try clear hk); (try clear hi)))
       go_ret
       exact ⟨by first | rfl | (simp [errW_none, errW_some] <;> rfl) | (simp [*, errW_none, errW_some] <;> rfl), by repeat (first | (with_reducible first | exact HB.out | apply below_alloc | apply pw_below_drewN | apply below_drew1) | exact HB.out)⟩
    ·rw [if_neg c2] at H
     have c2b0 : decide (0 < (x0_1.size : Int)) = false := decide_eq_false c2
     have c2b1 : decide (0 < x0_1.size) = false := decide_eq_false (by omega)
     clear c2
     obtain rfl := Option.some.inj H
     go_wp2
     go_ret
     exact ⟨by first | rfl | (simp [errW_none, errW_some] <;> rfl) | (simp [*, errW_none, errW_some] <;> rfl), by repeat (first | (with_reducible first | exact HB.out | apply below_alloc | apply pw_below_drewN | apply below_drew1) | exact HB.out)⟩
def broadsheetref10_has.l0 : Nat → ByteArray → ByteArray → Int → Option (Bool)
 | 0, _, _, _ => none
 | k + 1, x0, x1, x5 => if (wrap64 (x5 + (x1.size : Int))) ≤ (x0.size : Int) then (if 0 ≤ x5 then (if x5 ≤ (wrap64 (x5 + (x1.size : Int))) then (if (x0.extract (x5 : Int).toNat ((wrap64 (x5 + (x1.size : Int))) : Int).toNat).toList = x1.toList then (some true) else (broadsheetref10_has.l0 k x0 x1 (wrap64 (x5 + 1)))) else (none)) else (none)) else (some false)
def broadsheetref10_has.f (k : Nat) (a0 : ByteArray) (a1 : ByteArray) : Option (Bool) := broadsheetref10_has.l0 k a0 a1 0
set_option maxHeartbeats 8000000 in
set_option maxRecDepth 100000 in
theorem broadsheetref10_has.calls (k : Nat) (a0 : ByteArray) (a1 : ByteArray) (r : Bool) (w : World) (h : broadsheetref10_has.f k a0 a1 = some r) :
  Calls Tryz.prog 51 #[.string a0, .string a1] w fun e w' => e = .returned (.bool r) ∧ Drawn0 w w' := by
 have H : (broadsheetref10_has.l0 k a0 a1 0) = some r := h
 clear h
 have H' := Aside0.mk H
 clear H
 go_enter Tryz.func51, Tryz.ntmps51
 go_wp2
 go_loopg [5] k (fun kq v5 w' => ∃ (x5_1 : Int), v5 = .int .i64 x5_1 ∧ Aside0 (broadsheetref10_has.l0 kq a0 a1 x5_1 = some r) ∧ Aside0 (kq ≤ k) ∧ Drawn0 w w')
 case atStart => exact ⟨(0), (by first | rfl | (simp; done) | (simp [*]; done) | (simp [xx_ne_nil, xx_eq_nil]; done) | (simp [*, xx_ne_nil, xx_eq_nil]; done)), H', ⟨Nat.le_refl _⟩, by repeat (first | exact Drawn0.refl _ | apply Drawn0.step)⟩
 case round =>
  clear H'
  try clear p2
  obtain ⟨x5_1, rfl, HA, HK1, ⟨m1, rfl⟩⟩ := hrel
  cases gk with
  | zero => exact absurd HA.out (by simp [broadsheetref10_has.l0])
  | succ k1 =>
    have H := HA.out
    clear HA
    simp only [broadsheetref10_has.l0] at H
    by_cases c3 : (wrap64 (x5_1 + (a1.size : Int))) ≤ (a0.size : Int)
    ·rw [if_pos c3] at H
     have c3b0 : decide ((wrap64 (x5_1 + (a1.size : Int))) ≤ (a0.size : Int)) = true := decide_eq_true c3
     clear c3
     by_cases c4 : 0 ≤ x5_1
     ·rw [if_pos c4] at H
      have c4b0 := eq_true c4
      have c4b1 : decide (0 ≤ x5_1) = true := decide_eq_true c4
      clear c4
      by_cases c5 : x5_1 ≤ (wrap64 (x5_1 + (a1.size : Int)))
      ·rw [if_pos c5] at H
       have c5b0 := eq_true c5
       have c5b1 : decide (x5_1 ≤ (wrap64 (x5_1 + (a1.size : Int)))) = true := decide_eq_true c5
       have c6b0 := eq_true (of_decide_eq_true (by first | (with_reducible assumption) | assumption) : (wrap64 (x5_1 + (a1.size : Int))) ≤ (a0.size : Int))
       by_cases c7 : (a0.extract (x5_1 : Int).toNat ((wrap64 (x5_1 + (a1.size : Int))) : Int).toNat).toList = a1.toList
       ·rw [if_pos c7] at H
        have c7b0 : ((a0.extract (x5_1 : Int).toNat ((wrap64 (x5_1 + (a1.size : Int))) : Int).toNat).toList == a1.toList) = true := beq_iff_eq.mpr c7
        have c7b1 : ((a0.extract (x5_1 : Int).toNat ((wrap64 (x5_1 + (a1.size : Int))) : Int).toNat).toList != a1.toList) = false := bne_eq_false_iff_eq.mpr c7
        clear c7
        obtain rfl := Option.some.inj H
        go_wp2
        go_ret
        exact ⟨by first | rfl | (simp; done) | (simp [*]; done) | (simp [xx_ne_nil, xx_eq_nil]; done) | (simp [*, xx_ne_nil, xx_eq_nil]; done), by repeat (first | exact Drawn0.refl _ | apply Drawn0.step)⟩
       ·rw [if_neg c7] at H
        have c7b0 : ((a0.extract (x5_1 : Int).toNat ((wrap64 (x5_1 + (a1.size : Int))) : Int).toNat).toList == a1.toList) = false := beq_eq_false_iff_ne.mpr c7
        have c7b1 : ((a0.extract (x5_1 : Int).toNat ((wrap64 (x5_1 + (a1.size : Int))) : Int).toNat).toList != a1.toList) = true := bne_iff_ne.mpr c7
        have H' := Aside0.mk H
        clear H
        go_wp2
        go_roundg k1
        case measure => have := HK1.out; omega
        case rel => exact ⟨(wrap64 (x5_1 + 1)), (by first | rfl | (simp; done) | (simp [*]; done) | (simp [xx_ne_nil, xx_eq_nil]; done) | (simp [*, xx_ne_nil, xx_eq_nil]; done)), H', ⟨by have := HK1.out; omega⟩, by repeat (first | exact Drawn0.refl _ | apply Drawn0.step)⟩
      ·rw [if_neg c5] at H
       exact absurd H (by simp)
     ·rw [if_neg c4] at H
      exact absurd H (by simp)
    ·rw [if_neg c3] at H
     have c3b0 : decide ((wrap64 (x5_1 + (a1.size : Int))) ≤ (a0.size : Int)) = false := decide_eq_false c3
     clear c3
     obtain rfl := Option.some.inj H
     go_wp2
     go_ret
     exact ⟨by first | rfl | (simp; done) | (simp [*]; done) | (simp [xx_ne_nil, xx_eq_nil]; done) | (simp [*, xx_ne_nil, xx_eq_nil]; done), by repeat (first | exact Drawn0.refl _ | apply Drawn0.step)⟩
end Go.Proofs.YtadgeghipimfiaaGreatDoor.Pg
end
section
namespace Go.Proofs.YtadgeghipimfiaaGreatDoor.U
open Go.RowKit Go.Lib Go.Proofs.YtadgeghipimfiaaGreatDoorW.PrintWords Go.Proofs.YtadgeghipimfiaaGreatDoor.X Go.Proofs.YtadgeghipimfiaaGreatDoor.Pg
def inP (c : Int) : List Int → Bool
 | a :: b :: r => (decide (a ≤ c) && decide (c ≤ b)) || inP c r
 | _ => false
theorem rd_nat (l : List Int) (i : Nat) : rd l (i : Int) = l.getD i 0 := by simp [rd]
theorem inP_drop (c : Int) (l : List Int) (i : Nat) (h : i + 1 < l.length) : inP c (l.drop i) = ((decide (l.getD i 0 ≤ c) && decide (c ≤ l.getD (i + 1) 0)) || inP c (l.drop (i + 2))) := by
 rw [List.drop_eq_getElem_cons (by omega), List.drop_eq_getElem_cons h, List.getD_eq_getElem?_getD, List.getD_eq_getElem?_getD, List.getElem?_eq_getElem h, List.getElem?_eq_getElem (by omega)]
 rfl
theorem inP_end (c : Int) (l : List Int) (i : Nat) (h : ¬ i + 1 < l.length) : inP c (l.drop i) = false := by
 have : (l.drop i).length ≤ 1 := by simp; omega
 match hl : l.drop i, this with
 | [], _ => rfl
 | [a], _ => rfl
theorem in_ev (c : Int) (l : List Int) (hl : l.length ≤ 1000) : ∀ (d i : Nat), l.length - i ≤ d → i ≤ l.length + 2 → Ev (fun k => broadsheetref05_in.l0 k c l (i : Int)) (inP c (l.drop i)) := by
 intro d
 induction d with
 | zero =>
   intro i hd hi
   refine Ev.step (fun k => (show broadsheetref05_in.l0 (k + 1) c l i = _ from by rw [broadsheetref05_in.l0])) ?_
   have e1 : wrap64 ((i : Int) + 1) = (i : Int) + 1 := w64 (by omega) (by omega)
   simp only [e1, if_neg (show ¬ (i : Int) + 1 < (l.length : Int) by omega)]
   rw [inP_end _ _ _ (by omega)]
   exact Ev.now _
 | succ d ih =>
   intro i hd hi
   refine Ev.step (fun k => (show broadsheetref05_in.l0 (k + 1) c l i = _ from by rw [broadsheetref05_in.l0])) ?_
   have e1 : wrap64 ((i : Int) + 1) = ((i + 1 : Nat) : Int) := by rw [w64 (by omega) (by omega)]; rfl
   have e2 : wrap64 ((i : Int) + 2) = ((i + 2 : Nat) : Int) := by rw [w64 (by omega) (by omega)]; rfl
   by_cases h : i + 1 < l.length
   ·have q := ih (i + 2) (by omega) (by omega)
    simp only [e1, e2, rd_nat, if_pos (show ((i + 1 : Nat) : Int) < (l.length : Int) by omega), if_pos (show (0 : Int) ≤ (i : Int) by omega), if_pos (show (i : Int) < (l.length : Int) by omega), if_pos (show (0 : Int) ≤ ((i + 1 : Nat) : Int) by omega)]
    rw [inP_drop c l i h]
    by_cases h1 : c ≥ l.getD i 0
    ·by_cases h2 : c ≤ l.getD (i + 1) 0
     ·simp only [if_pos h1, if_pos h2, decide_eq_true (show l.getD i 0 ≤ c from h1), decide_eq_true h2, Bool.true_and, Bool.true_or]
      exact Ev.now _
     ·simp only [if_pos h1, if_neg h2, decide_eq_false h2, Bool.and_false, Bool.false_or]
      exact q
    ·simp only [if_neg h1, decide_eq_false (show ¬ l.getD i 0 ≤ c from h1), Bool.false_and, Bool.false_or]
     exact q
   ·simp only [e1, if_neg (show ¬ ((i + 1 : Nat) : Int) < (l.length : Int) by omega)]
    rw [inP_end _ _ _ h]
    exact Ev.now _
theorem in_f (c : Int) (l : List Int) (hl : l.length ≤ 1000) : Ev (fun k => broadsheetref05_in.f k c l) (inP c l) := by
 have := in_ev c l hl l.length 0 (by omega) (by omega)
 simpa [broadsheetref05_in.f] using this
theorem rchar_ev (c : Int) : Ev (fun k => broadsheetref05_Char.f k c) (charB c) := by
 have h : inP c [9, 10, 13, 13, 32, 55295, 57344, 65533, 65536, 1114111] = charB c := by simp [inP, charB, amongB, charL, inR]
 rw [← h]
 unfold broadsheetref05_Char.f
 exact Ev.bind (in_f c _ (by decide)) (Ev.now _)
theorem start_eq (c : Int) : inP c [58, 58, 65, 90, 95, 95, 97, 122, 192, 214, 216, 246, 248, 767, 880, 893, 895, 8191, 8204, 8205, 8304, 8591, 11264, 12271, 12289, 55295, 63744, 64975, 65008, 65533, 65536, 983039] = startB c := by
 unfold startB asciiStartB
 simp only [inP, amongB, startL, inR, List.any_cons, List.any_nil]
 by_cases h : c < 128
 ·rw [if_pos h, decide_eq_false (show ¬ 192 ≤ c by omega), decide_eq_false (show ¬ 216 ≤ c by omega), decide_eq_false (show ¬ 248 ≤ c by omega), decide_eq_false (show ¬ 880 ≤ c by omega), decide_eq_false (show ¬ 895 ≤ c by omega),
   decide_eq_false (show ¬ 8204 ≤ c by omega), decide_eq_false (show ¬ 8304 ≤ c by omega), decide_eq_false (show ¬ 11264 ≤ c by omega), decide_eq_false (show ¬ 12289 ≤ c by omega), decide_eq_false (show ¬ 63744 ≤ c by omega), decide_eq_false (show ¬ 65008 ≤ c by omega), decide_eq_false (show ¬ 65536 ≤ c by omega)]
  simp only [Bool.false_and, Bool.or_false]
  rw [Bool.eq_iff_iff]
  simp only [Bool.or_eq_true, Bool.and_eq_true, decide_eq_true_eq, beq_iff_eq]
  omega
 ·rw [if_neg h, decide_eq_false (show ¬ c ≤ 58 by omega), decide_eq_false (show ¬ c ≤ 90 by omega), decide_eq_false (show ¬ c ≤ 95 by omega), decide_eq_false (show ¬ c ≤ 122 by omega)]
  simp
theorem rstart_ev (c : Int) : Ev (fun k => broadsheetref05_Start.f k c) (startB c) := by
 rw [← start_eq]
 unfold broadsheetref05_Start.f
 exact Ev.bind (in_f c _ (by decide)) (Ev.now _)
theorem rpart_ev (c : Int) : Ev (fun k => broadsheetref05_Part.f k c) (partB c) := by
 have h : inP c [45, 46, 48, 57, 183, 183, 768, 879, 8255, 8256] = amongB c partL := by simp [inP, amongB, partL, inR]
 unfold broadsheetref05_Part.f
 refine Ev.bind (rstart_ev c) ?_
 unfold partB
 cases hs : startB c with
 | true => simp only [if_true, Bool.true_or]; exact Ev.now _
 | false =>
   simp only [Bool.false_eq_true, if_false, Bool.false_or]
   rw [← h]
   exact Ev.bind (in_f c _ (by decide)) (Ev.now _)
theorem bt_nb (l : Bs) (i : Nat) (h : i < l.length) : bt (B l) (i : Int) = (nb l i : Int) := by
 rw [B_bt l i h]
 unfold nb
 rw [List.getD_eq_getElem?_getD, List.getElem?_eq_getElem h]
 rfl
theorem bt_nb0 (l : Bs) (h : 0 < l.length) : bt (B l) 0 = (nb l 0 : Int) := bt_nb l 0 h
theorem w_nb (l : Bs) (i : Nat) : wrap64 (nb l i : Int) = (nb l i : Int) := w64 (by have := nb_lt l i; omega) (by have := nb_lt l i; omega)
def restN (n : Nat) (c least : Int) (b1 b2 b3 : Nat) : Int × Int :=
 if (b1 < 128 ∨ 191 < b1) then (0, 0)
 else if n = 2 then fin (c * 64 + b1 - 128) 2
 else if (b2 < 128 ∨ 191 < b2) then (0, 0)
 else if n = 3 then fin ((c * 64 + b1 - 128) * 64 + b2 - 128) 3
 else if (b3 < 128 ∨ 191 < b3) then (0, 0)
 else fin (((c * 64 + b1 - 128) * 64 + b2 - 128) * 64 + b3 - 128) 4
where fin (v : Int) (n : Int) : Int × Int := if v < least then (0, 0) else if v > 1114111 then (0, 0) else if v ≥ 55296 ∧ v ≤ 57343 then (0, 0) else (v, n)
theorem fin_ev (s : ByteArray) (c least : Int) (n : Nat) (i : Nat) (hi : ¬ i < n) : Ev (fun k => broadsheetref05_First.l0 k s (n : Int) c least (i : Int)) (restN.fin least c (n : Int)) := by
 refine Ev.step (fun k => (show broadsheetref05_First.l0 (k + 1) s n c least i = _ from by rw [broadsheetref05_First.l0])) ?_
 simp only [if_neg (show ¬ (i : Int) < (n : Int) by omega)]
 unfold restN.fin
 by_cases h1 : c < least
 ·simp only [if_pos h1]; exact Ev.now _
 ·simp only [if_neg h1]
  by_cases h2 : c > 1114111
  ·simp only [if_pos h2]; exact Ev.now _
  ·simp only [if_neg h2]
   by_cases h3 : c ≥ 55296
   ·simp only [if_pos h3]
    by_cases h4 : c ≤ 57343
    ·simp only [if_pos h4, if_pos (show c ≥ 55296 ∧ c ≤ 57343 from ⟨h3, h4⟩)]; exact Ev.now _
    ·simp only [if_neg h4, if_neg (show ¬ (c ≥ 55296 ∧ c ≤ 57343) from fun h => h4 h.2)]; exact Ev.now _
   ·simp only [if_neg h3, if_neg (show ¬ (c ≥ 55296 ∧ c ≤ 57343) from fun h => h3 h.1)]; exact Ev.now _
theorem step_ev (l : Bs) (c least : Int) (n i : Nat) (hi : i < n) (hl : n ≤ l.length) (h0 : i < 4) (hc0 : 0 ≤ c) (hc1 : c ≤ 1000000) (R : Int × Int)
  (hbad : (nb l i < 128 ∨ 191 < nb l i) → R = (0, 0))
  (hgood : 128 ≤ nb l i → nb l i ≤ 191 → Ev (fun k => broadsheetref05_First.l0 k (B l) (n : Int) (c * 64 + nb l i - 128) least ((i + 1 : Nat) : Int)) R) :
  Ev (fun k => broadsheetref05_First.l0 k (B l) (n : Int) c least (i : Int)) R := by
 have hb := nb_lt l i
 refine Ev.step (fun k => (show broadsheetref05_First.l0 (k + 1) (B l) n c least i = _ from by rw [broadsheetref05_First.l0])) ?_
 have e1 : wrap64 ((i : Int) + 1) = ((i + 1 : Nat) : Int) := by rw [w64 (by omega) (by omega)]; rfl
 have e2 : wrap64 (wrap64 (wrap64 (c * 64) + (nb l i : Int)) - 128) = c * 64 + nb l i - 128 := by
  rw [w64 (x := c * 64) (by omega) (by omega), w64 (x := c * 64 + (nb l i : Int)) (by omega) (by omega), w64 (by omega) (by omega)]
 simp only [if_pos (show (i : Int) < (n : Int) by omega), if_pos (show (0 : Int) ≤ (i : Int) by omega), B_size, if_pos (show (i : Int) < (l.length : Int) by omega), bt_nb l i (by omega), w_nb, e1, e2]
 by_cases h1 : nb l i < 128
 ·simp only [if_pos (show (nb l i : Int) < 128 by omega)]
  rw [hbad (.inl h1)]
  exact Ev.now _
 ·simp only [if_neg (show ¬ (nb l i : Int) < 128 by omega)]
  by_cases h2 : 191 < nb l i
  ·simp only [if_pos (show (nb l i : Int) > 191 by omega)]
   rw [hbad (.inr h2)]
   exact Ev.now _
  ·simp only [if_neg (show ¬ (nb l i : Int) > 191 by omega)]
   exact hgood (by omega) (by omega)
theorem rest_ev (l : Bs) (c least : Int) (n : Nat) (hn2 : 2 ≤ n) (hn : n ≤ 4) (hc0 : 0 ≤ c) (hc1 : c ≤ 31) :
  Ev (fun k => broadsheetref05_First.j2 k (B l) (n : Int) c least) (if l.length < n then (0, 0) else restN n c least (nb l 1) (nb l 2) (nb l 3)) := by
 refine Ev.step (fun k => (show broadsheetref05_First.j2 (k + 1) (B l) n c least = _ from by rw [broadsheetref05_First.j2])) ?_
 rw [B_size]
 by_cases hl : l.length < n
 ·simp only [if_pos (show (l.length : Int) < (n : Int) by omega), if_pos hl]
  exact Ev.now _
 ·simp only [if_neg (show ¬ (l.length : Int) < (n : Int) by omega), if_neg hl]
  have b1 := nb_lt l 1
  have b2 := nb_lt l 2
  refine step_ev l c least n 1 (by omega) (by omega) (by omega) hc0 (by omega) _ (fun h => by unfold restN; rw [if_pos h]) (fun h1 h2 => ?_)
  have k1 : ¬ (nb l 1 < 128 ∨ 191 < nb l 1) := by omega
  by_cases e2 : n = 2
  ·subst e2
   have := fin_ev (B l) (c * 64 + nb l 1 - 128) least 2 2 (by omega)
   unfold restN
   rw [if_neg k1, if_pos rfl]
   exact this
  ·refine step_ev l _ least n 2 (by omega) (by omega) (by omega) (by omega) (by omega) _ (fun h => by unfold restN; rw [if_neg k1, if_neg e2, if_pos h]) (fun h3 h4 => ?_)
   have k2 : ¬ (nb l 2 < 128 ∨ 191 < nb l 2) := by omega
   by_cases e3 : n = 3
   ·subst e3
    have := fin_ev (B l) ((c * 64 + nb l 1 - 128) * 64 + nb l 2 - 128) least 3 3 (by omega)
    unfold restN
    rw [if_neg k1, if_neg e2, if_neg k2, if_pos rfl]
    exact this
   ·obtain rfl : n = 4 := by omega
    refine step_ev l _ least 4 3 (by omega) (by omega) (by omega) (by omega) (by omega) _ (fun h => by unfold restN; rw [if_neg k1, if_neg e2, if_neg k2, if_neg e3, if_pos h]) (fun h5 h6 => ?_)
    have k3 : ¬ (nb l 3 < 128 ∨ 191 < nb l 3) := by omega
    have := fin_ev (B l) (((c * 64 + nb l 1 - 128) * 64 + nb l 2 - 128) * 64 + nb l 3 - 128) least 4 4 (by omega)
    unfold restN
    rw [if_neg k1, if_neg e2, if_neg k2, if_neg e3, if_neg k3]
    exact this
set_option maxHeartbeats 1000000 in
theorem first_two (l : Bs) (h0 : l ≠ []) (h1 : 192 ≤ nb l 0) (h2 : nb l 0 < 224) : firstL l = if l.length < 2 then (0, 0) else restN 2 ((nb l 0 : Int) - 192) 128 (nb l 1) (nb l 2) (nb l 3) := by
 have l1 := nb_lt l 1
 have hp : 0 < l.length := List.length_pos_iff.2 h0
 unfold firstL restN restN.fin
 rw [if_neg h0, decodeL_eq]
 generalize nb l 0 = b0 at *
 generalize nb l 1 = b1 at *
 generalize nb l 2 = b2 at *
 generalize nb l 3 = b3 at *
 generalize l.length = n at *
 have e0 : ¬ b0 < 128 := by omega
 by_cases hc : b0 / 32 = 6 ∧ (1 < n ∧ b1 / 64 = 2)
 ·by_cases hd : b0 % 32 * 64 + b1 % 64 ≥ 128
  ·have e : decodeN n b0 b1 b2 b3 = (b0 % 32 * 64 + b1 % 64, 2) := by unfold decodeN; rw [if_neg e0, if_pos hc, if_pos hd]
   rw [e]
   simp only [if_neg (show ¬ (b0 % 32 * 64 + b1 % 64 = 65533 ∧ 2 = 1) by omega), if_neg (show ¬ n < 2 by omega), if_neg (show ¬ (b1 < 128 ∨ 191 < b1) by omega), if_true, if_neg (show ¬ ((b0 : Int) - 192) * 64 + b1 - 128 < 128 by omega), if_neg (show ¬ ((b0 : Int) - 192) * 64 + b1 - 128 > 1114111 by omega), if_neg (show ¬ (((b0 : Int) - 192) * 64 + b1 - 128 ≥ 55296 ∧ ((b0 : Int) - 192) * 64 + b1 - 128 ≤ 57343) by omega)]
   refine Prod.ext ?_ ?_
   ·simp only; omega
   ·rfl
  ·have e : decodeN n b0 b1 b2 b3 = (65533, 1) := by unfold decodeN; rw [if_neg e0, if_pos hc, if_neg hd]
   rw [e]
   simp only [if_neg (show ¬ n < 2 by omega), if_neg (show ¬ (b1 < 128 ∨ 191 < b1) by omega), if_true, and_self, if_pos (show ((b0 : Int) - 192) * 64 + b1 - 128 < 128 by omega)]
 ·have e : decodeN n b0 b1 b2 b3 = (65533, 1) := by unfold decodeN; rw [if_neg e0, if_neg hc, if_neg (by omega), if_neg (by omega)]
  rw [e]
  simp only [and_self, if_true]
  by_cases hn : n < 2
  ·simp only [if_pos hn]
  ·simp only [if_neg hn, if_pos (show b1 < 128 ∨ 191 < b1 by omega)]
set_option maxHeartbeats 1000000 in
theorem first_three (l : Bs) (h0 : l ≠ []) (h1 : 224 ≤ nb l 0) (h2 : nb l 0 < 240) : firstL l = if l.length < 3 then (0, 0) else restN 3 ((nb l 0 : Int) - 224) 2048 (nb l 1) (nb l 2) (nb l 3) := by
 have l1 := nb_lt l 1
 have l2 := nb_lt l 2
 have hp : 0 < l.length := List.length_pos_iff.2 h0
 unfold firstL restN restN.fin
 rw [if_neg h0, decodeL_eq]
 generalize nb l 0 = b0 at *
 generalize nb l 1 = b1 at *
 generalize nb l 2 = b2 at *
 generalize nb l 3 = b3 at *
 generalize l.length = n at *
 have e0 : ¬ b0 < 128 := by omega
 have e1 : ¬ (b0 / 32 = 6 ∧ (1 < n ∧ b1 / 64 = 2)) := by omega
 have n32 : ¬ (3 : Nat) = 2 := by omega
 by_cases hc : b0 / 16 = 14 ∧ (1 < n ∧ b1 / 64 = 2) ∧ (2 < n ∧ b2 / 64 = 2)
 ·have hb1 : ¬ (b1 < 128 ∨ 191 < b1) := by omega
  have hb2 : ¬ (b2 < 128 ∨ 191 < b2) := by omega
  by_cases hd : b0 % 16 * 4096 + b1 % 64 * 64 + b2 % 64 ≥ 2048 ∧ (b0 % 16 * 4096 + b1 % 64 * 64 + b2 % 64 < 55296 ∨ (57344 ≤ b0 % 16 * 4096 + b1 % 64 * 64 + b2 % 64 ∧ b0 % 16 * 4096 + b1 % 64 * 64 + b2 % 64 ≤ 1114111))
  ·have e : decodeN n b0 b1 b2 b3 = (b0 % 16 * 4096 + b1 % 64 * 64 + b2 % 64, 3) := by unfold decodeN; rw [if_neg e0, if_neg e1, if_pos hc, if_pos hd]
   rw [e]
   simp only [if_neg (show ¬ (b0 % 16 * 4096 + b1 % 64 * 64 + b2 % 64 = 65533 ∧ 3 = 1) by omega), if_neg (show ¬ n < 3 by omega), if_neg hb1, if_neg n32, if_neg hb2, if_true, if_neg (show ¬ (((b0 : Int) - 224) * 64 + b1 - 128) * 64 + b2 - 128 < 2048 by omega), if_neg (show ¬ (((b0 : Int) - 224) * 64 + b1 - 128) * 64 + b2 - 128 > 1114111 by omega), if_neg (show ¬ ((((b0 : Int) - 224) * 64 + b1 - 128) * 64 + b2 - 128 ≥ 55296 ∧ (((b0 : Int) - 224) * 64 + b1 - 128) * 64 + b2 - 128 ≤ 57343) by omega)]
   refine Prod.ext ?_ ?_
   ·simp only; omega
   ·rfl
  ·have e : decodeN n b0 b1 b2 b3 = (65533, 1) := by unfold decodeN; rw [if_neg e0, if_neg e1, if_pos hc, if_neg hd]
   rw [e]
   simp only [if_neg (show ¬ n < 3 by omega), if_neg hb1, if_neg n32, if_neg hb2, if_true, and_self]
   by_cases he : (((b0 : Int) - 224) * 64 + b1 - 128) * 64 + b2 - 128 < 2048
   ·simp only [if_pos he]
   ·simp only [if_neg he, if_neg (show ¬ (((b0 : Int) - 224) * 64 + b1 - 128) * 64 + b2 - 128 > 1114111 by omega), if_pos (show ((((b0 : Int) - 224) * 64 + b1 - 128) * 64 + b2 - 128 ≥ 55296 ∧ (((b0 : Int) - 224) * 64 + b1 - 128) * 64 + b2 - 128 ≤ 57343) by omega)]
 ·have e : decodeN n b0 b1 b2 b3 = (65533, 1) := by unfold decodeN; rw [if_neg e0, if_neg e1, if_neg hc, if_neg (by omega)]
  rw [e]
  simp only [and_self, if_true]
  by_cases hn : n < 3
  ·simp only [if_pos hn]
  ·simp only [if_neg hn, if_neg n32]
   by_cases hb : b1 < 128 ∨ 191 < b1
   ·simp only [if_pos hb]
   ·simp only [if_neg hb, if_pos (show b2 < 128 ∨ 191 < b2 by omega)]
set_option maxHeartbeats 1000000 in
theorem first_four (l : Bs) (h0 : l ≠ []) (h1 : 240 ≤ nb l 0) (h2 : nb l 0 < 248) : firstL l = if l.length < 4 then (0, 0) else restN 4 ((nb l 0 : Int) - 240) 65536 (nb l 1) (nb l 2) (nb l 3) := by
 have l1 := nb_lt l 1
 have l2 := nb_lt l 2
 have l3 := nb_lt l 3
 have hp : 0 < l.length := List.length_pos_iff.2 h0
 unfold firstL restN restN.fin
 rw [if_neg h0, decodeL_eq]
 generalize nb l 0 = b0 at *
 generalize nb l 1 = b1 at *
 generalize nb l 2 = b2 at *
 generalize nb l 3 = b3 at *
 generalize l.length = n at *
 have e0 : ¬ b0 < 128 := by omega
 have e1 : ¬ (b0 / 32 = 6 ∧ (1 < n ∧ b1 / 64 = 2)) := by omega
 have e2 : ¬ (b0 / 16 = 14 ∧ (1 < n ∧ b1 / 64 = 2) ∧ (2 < n ∧ b2 / 64 = 2)) := by omega
 have n42 : ¬ (4 : Nat) = 2 := by omega
 have n43 : ¬ (4 : Nat) = 3 := by omega
 by_cases hc : b0 / 8 = 30 ∧ (1 < n ∧ b1 / 64 = 2) ∧ (2 < n ∧ b2 / 64 = 2) ∧ (3 < n ∧ b3 / 64 = 2)
 ·have hb1 : ¬ (b1 < 128 ∨ 191 < b1) := by omega
  have hb2 : ¬ (b2 < 128 ∨ 191 < b2) := by omega
  have hb3 : ¬ (b3 < 128 ∨ 191 < b3) := by omega
  by_cases hd : b0 % 8 * 262144 + b1 % 64 * 4096 + b2 % 64 * 64 + b3 % 64 ≥ 65536 ∧ (b0 % 8 * 262144 + b1 % 64 * 4096 + b2 % 64 * 64 + b3 % 64 < 55296 ∨ (57344 ≤ b0 % 8 * 262144 + b1 % 64 * 4096 + b2 % 64 * 64 + b3 % 64 ∧ b0 % 8 * 262144 + b1 % 64 * 4096 + b2 % 64 * 64 + b3 % 64 ≤ 1114111))
  ·have e : decodeN n b0 b1 b2 b3 = (b0 % 8 * 262144 + b1 % 64 * 4096 + b2 % 64 * 64 + b3 % 64, 4) := by unfold decodeN; rw [if_neg e0, if_neg e1, if_neg e2, if_pos hc, if_pos hd]
   rw [e]
   simp only [if_neg (show ¬ (b0 % 8 * 262144 + b1 % 64 * 4096 + b2 % 64 * 64 + b3 % 64 = 65533 ∧ 4 = 1) by omega), if_neg (show ¬ n < 4 by omega), if_neg hb1, if_neg n42, if_neg hb2, if_neg n43, if_neg hb3, if_neg (show ¬ ((((b0 : Int) - 240) * 64 + b1 - 128) * 64 + b2 - 128) * 64 + b3 - 128 < 65536 by omega), if_neg (show ¬ ((((b0 : Int) - 240) * 64 + b1 - 128) * 64 + b2 - 128) * 64 + b3 - 128 > 1114111 by omega), if_neg (show ¬ (((((b0 : Int) - 240) * 64 + b1 - 128) * 64 + b2 - 128) * 64 + b3 - 128 ≥ 55296 ∧ ((((b0 : Int) - 240) * 64 + b1 - 128) * 64 + b2 - 128) * 64 + b3 - 128 ≤ 57343) by omega)]
   refine Prod.ext ?_ ?_
   ·simp only; omega
   ·rfl
  ·have e : decodeN n b0 b1 b2 b3 = (65533, 1) := by unfold decodeN; rw [if_neg e0, if_neg e1, if_neg e2, if_pos hc, if_neg hd]
   rw [e]
   simp only [if_neg (show ¬ n < 4 by omega), if_neg hb1, if_neg n42, if_neg hb2, if_neg n43, if_neg hb3, if_true, and_self]
   by_cases he : ((((b0 : Int) - 240) * 64 + b1 - 128) * 64 + b2 - 128) * 64 + b3 - 128 < 65536
   ·simp only [if_pos he]
   ·simp only [if_neg he, if_pos (show ((((b0 : Int) - 240) * 64 + b1 - 128) * 64 + b2 - 128) * 64 + b3 - 128 > 1114111 by omega)]
 ·have e : decodeN n b0 b1 b2 b3 = (65533, 1) := by unfold decodeN; rw [if_neg e0, if_neg e1, if_neg e2, if_neg hc]
  rw [e]
  simp only [and_self, if_true]
  by_cases hn : n < 4
  ·simp only [if_pos hn]
  ·simp only [if_neg hn, if_neg n42, if_neg n43]
   by_cases hb : b1 < 128 ∨ 191 < b1
   ·simp only [if_pos hb]
   ·by_cases hb2 : b2 < 128 ∨ 191 < b2
    ·simp only [if_neg hb, if_pos hb2]
    ·simp only [if_neg hb, if_neg hb2, if_pos (show b3 < 128 ∨ 191 < b3 by omega)]
theorem first_bad (l : Bs) (h1 : 128 ≤ nb l 0) (h2 : nb l 0 < 192 ∨ 248 ≤ nb l 0) : firstL l = (0, 0) := by
 have l0 := nb_lt l 0
 apply firstL_bad
 unfold bad
 rw [decodeL_eq]
 unfold decodeN
 rw [if_neg (by omega), if_neg (by omega), if_neg (by omega), if_neg (by omega)]
 exact ⟨rfl, rfl⟩
theorem first_ev (l : Bs) : Ev (fun k => broadsheetref05_First.f k (B l)) (firstL l) := by
 unfold broadsheetref05_First.f
 by_cases h0 : l = []
 ·subst h0
  simp only [if_pos (show (B []).toList = ([] : List UInt8) from B_toList [])]
  exact Ev.now _
 ·have hp : 0 < l.length := List.length_pos_iff.2 h0
  have lt := nb_lt l 0
  simp only [B_toList, if_neg h0, B_size, if_pos (show (0 : Int) < (l.length : Int) by omega), bt_nb0 l hp, w_nb]
  by_cases h1 : nb l 0 < 128
  ·simp only [if_pos (show (nb l 0 : Int) < 128 by omega)]
   have : firstL l = ((nb l 0 : Int), 1) := by
    have e : decodeL l = (nb l 0, 1) := by rw [decodeL_eq]; unfold decodeN; rw [if_pos h1]
    rw [firstL_good h0 (by unfold bad; rw [e]; simp; omega), e]
    rfl
   rw [this]
   exact Ev.now _
  ·simp only [if_neg (show ¬ (nb l 0 : Int) < 128 by omega)]
   by_cases h2 : 192 ≤ nb l 0
   ·simp only [if_pos (show (nb l 0 : Int) ≥ 192 by omega)]
    by_cases h3 : nb l 0 < 224
    ·refine Ev.step (fun k => (show broadsheetref05_First.j0 (k + 1) (B l) (nb l 0) _ = _ from by rw [broadsheetref05_First.j0])) ?_
     simp only [decide_eq_true (show (nb l 0 : Int) < 224 by omega), if_true, w64 (x := (nb l 0 : Int) - 192) (by omega) (by omega)]
     rw [first_two l h0 h2 h3]
     exact rest_ev l _ 128 2 (by omega) (by omega) (by omega) (by omega)
    ·refine Ev.step (fun k => (show broadsheetref05_First.j0 (k + 1) (B l) (nb l 0) _ = _ from by rw [broadsheetref05_First.j0])) ?_
     simp only [decide_eq_false (show ¬ (nb l 0 : Int) < 224 by omega), Bool.false_eq_true, if_false, if_pos (show (nb l 0 : Int) ≥ 224 by omega)]
     refine Ev.step (fun k => (show broadsheetref05_First.j1 (k + 1) (B l) (nb l 0) _ = _ from by rw [broadsheetref05_First.j1])) ?_
     by_cases h4 : nb l 0 < 240
     ·simp only [decide_eq_true (show (nb l 0 : Int) < 240 by omega), if_true, w64 (x := (nb l 0 : Int) - 224) (by omega) (by omega)]
      rw [first_three l h0 (by omega) h4]
      exact rest_ev l _ 2048 3 (by omega) (by omega) (by omega) (by omega)
     ·simp only [decide_eq_false (show ¬ (nb l 0 : Int) < 240 by omega), Bool.false_eq_true, if_false, if_pos (show (nb l 0 : Int) ≥ 240 by omega)]
      by_cases h5 : nb l 0 < 248
      ·simp only [if_pos (show (nb l 0 : Int) < 248 by omega), w64 (x := (nb l 0 : Int) - 240) (by omega) (by omega)]
       rw [first_four l h0 (by omega) h5]
       exact rest_ev l _ 65536 4 (by omega) (by omega) (by omega) (by omega)
      ·simp only [if_neg (show ¬ (nb l 0 : Int) < 248 by omega)]
       rw [first_bad l (by omega) (by omega)]
       exact Ev.now _
   ·simp only [if_neg (show ¬ (nb l 0 : Int) ≥ 192 by omega)]
    rw [first_bad l (by omega) (by omega)]
    refine Ev.step (fun k => (show broadsheetref05_First.j0 (k + 1) (B l) (nb l 0) _ = _ from by rw [broadsheetref05_First.j0])) ?_
    simp only [Bool.false_eq_true, if_false, if_neg (show ¬ (nb l 0 : Int) ≥ 224 by omega)]
    refine Ev.step (fun k => (show broadsheetref05_First.j1 (k + 1) (B l) (nb l 0) _ = _ from by rw [broadsheetref05_First.j1])) ?_
    simp only [Bool.false_eq_true, if_false, if_neg (show ¬ (nb l 0 : Int) ≥ 240 by omega)]
    exact Ev.now _
theorem rcheck_l0 : ∀ (d : Nat) (l : Bs), l.length ≤ d → Ev (fun k => broadsheetref05_Check.l0 k (B l)) (checkL d l) := by
 intro d
 induction d with
 | zero =>
   intro l hl
   have : l = [] := List.eq_nil_of_length_eq_zero (by omega)
   subst this
   refine Ev.step (fun k => (show broadsheetref05_Check.l0 (k + 1) (B []) = _ from by rw [broadsheetref05_Check.l0])) ?_
   simp only [if_neg (show ¬ ((B []).size : Int) > 0 by decide)]
   exact Ev.now _
 | succ d ih =>
   intro l hl
   refine Ev.step (fun k => (show broadsheetref05_Check.l0 (k + 1) (B l) = _ from by rw [broadsheetref05_Check.l0])) ?_
   by_cases h0 : l = []
   ·subst h0
    simp only [if_neg (show ¬ ((B []).size : Int) > 0 by decide)]
    exact Ev.now _
   ·have hp : 0 < l.length := List.length_pos_iff.2 h0
    unfold checkL
    simp only [if_pos (show ((B l).size : Int) > 0 by rw [B_size]; omega), if_neg h0]
    refine Ev.bind (first_ev l) ?_
    by_cases hz : (firstL l).2 = 0
    ·simp only [if_pos hz, if_pos (show (firstL l).2 = 0 ∨ charB (firstL l).1 = false from .inl hz)]
     exact Ev.now _
    ·obtain ⟨_, hb, e⟩ := first_ok hz
     have hw := wid_pos l
     have hl2 := wid_le l h0
     simp only [if_neg hz]
     refine Ev.bind (rchar_ev _) ?_
     by_cases hc : charB (firstL l).1 = true
     ·simp only [if_pos hc, if_neg (show ¬ ((firstL l).2 = 0 ∨ charB (firstL l).1 = false) from fun h => h.elim hz (fun h => by rw [hc] at h; cases h))]
      rw [e]
      simp only [if_pos (show (0 : Int) ≤ ((decodeL l).2 : Int) by omega), if_pos (show ((decodeL l).2 : Int) ≤ ((B l).size : Int) by rw [B_size]; omega), Int.toNat_natCast, extract_tail]
      exact ih _ (by simp; omega)
     ·have hc' : charB (firstL l).1 = false := by simpa using hc
      simp only [if_neg hc, if_pos (show (firstL l).2 = 0 ∨ charB (firstL l).1 = false from .inr hc')]
      exact Ev.now _
theorem rcheck_ev (l : Bs) : Ev (fun k => broadsheetref05_Check.f k (B l)) (checkL l.length l) := by
 unfold broadsheetref05_Check.f
 exact rcheck_l0 _ l (Nat.le_refl _)
theorem rname_end (s : Bs) (hs : s.length < 4611686018427387904) (p : Nat) (hp : p ≤ s.length) :
  (if ((B (s.drop p)).size : Int) = ((B s).size : Int) then (some ((⟨#[]⟩ : ByteArray), (⟨#[]⟩ : ByteArray), (51 : Int))) else (if 0 ≤ (wrap64 (((B s).size : Int) - ((B (s.drop p)).size : Int))) then (if (wrap64 (((B s).size : Int) - ((B (s.drop p)).size : Int))) ≤ ((B s).size : Int) then (some ((B s).extract 0 ((wrap64 (((B s).size : Int) - ((B (s.drop p)).size : Int))) : Int).toNat, B (s.drop p), 0)) else (none)) else (none))) = some (nameRes s p) := by
 have e : ((B (s.drop p)).size : Int) = (s.length : Int) - p := by rw [B_size, List.length_drop]; omega
 have e2 : wrap64 ((s.length : Int) - ((s.length : Int) - p)) = (p : Int) := by rw [w64 (by omega) (by omega)]; omega
 rw [e, B_size, e2]
 unfold nameRes
 by_cases h : p = 0
 ·subst h; rw [if_pos (by simp), if_pos rfl]
 ·rw [if_neg (by omega), if_neg h, if_pos (by omega), if_pos (by omega), Int.toNat_natCast, extract_head]
theorem rname_l0 (s : Bs) (hs : s.length < 4611686018427387904) : ∀ (d p : Nat), p ≤ s.length → s.length - p ≤ d → Ev (fun k => broadsheetref05_Name.l0 k (B s) (B (s.drop p))) (nameRes s (p + nameN d (decide (p = 0)) (s.drop p))) := by
 intro d
 induction d with
 | zero =>
   intro p hp hd
   refine Ev.step (fun k => (show broadsheetref05_Name.l0 (k + 1) (B s) (B (s.drop p)) = _ from by rw [broadsheetref05_Name.l0])) ?_
   rw [rname_end s hs p hp]
   simp only [if_neg (show ¬ ((B (s.drop p)).size : Int) > 0 by rw [B_size, List.length_drop]; omega)]
   exact Ev.now _
 | succ d ih =>
   intro p hp hd
   refine Ev.step (fun k => (show broadsheetref05_Name.l0 (k + 1) (B s) (B (s.drop p)) = _ from by rw [broadsheetref05_Name.l0])) ?_
   rw [rname_end s hs p hp]
   by_cases h : p < s.length
   ·have h0 : s.drop p ≠ [] := by simp; omega
    rw [nameN_step _ _ _ h0]
    simp only [if_pos (show ((B (s.drop p)).size : Int) > 0 by rw [B_size, List.length_drop]; omega)]
    refine Ev.bind (first_ev _) ?_
    by_cases hz : (firstL (s.drop p)).2 = 0
    ·have hg : goesB (decide (p = 0)) (s.drop p) = false := by unfold goesB; simp [hz]
     simp only [if_pos hz, hg, Bool.false_eq_true, if_false]
     exact Ev.now _
    ·obtain ⟨_, hb, e⟩ := first_ok hz
     have hw := wid_pos (s.drop p)
     have hl := wid_le _ h0
     rw [List.length_drop] at hl
     simp only [if_neg hz]
     refine Ev.bind (rpart_ev _) ?_
     by_cases hpart : partB (firstL (s.drop p)).1 = true
     ·simp only [if_pos hpart]
      have next : Ev (fun k => if 0 ≤ (firstL (s.drop p)).2 then (if (firstL (s.drop p)).2 ≤ ((B (s.drop p)).size : Int) then (broadsheetref05_Name.l0 k (B s) ((B (s.drop p)).extract ((firstL (s.drop p)).2 : Int).toNat (B (s.drop p)).size)) else (none)) else (none)) (nameRes s (p + ((decodeL (s.drop p)).2 + nameN d false ((s.drop p).drop (decodeL (s.drop p)).2)))) := by
       have q := ih (p + (decodeL (s.drop p)).2) (by omega) (by omega)
       rw [decide_eq_false (show ¬ p + (decodeL (s.drop p)).2 = 0 by omega), Nat.add_assoc] at q
       rw [e]
       simp only [if_pos (show (0 : Int) ≤ ((decodeL (s.drop p)).2 : Int) by omega), if_pos (show ((decodeL (s.drop p)).2 : Int) ≤ ((B (s.drop p)).size : Int) by rw [B_size, List.length_drop]; omega), Int.toNat_natCast, extract_tail, List.drop_drop]
       exact q
      by_cases h00 : p = 0
      ·simp only [if_pos (show ((B (s.drop p)).size : Int) = ((B s).size : Int) by subst h00; rfl)]
       refine Ev.bind (rstart_ev _) ?_
       by_cases hst : startB (firstL (s.drop p)).1 = true
       ·have hg : goesB (decide (p = 0)) (s.drop p) = true := by unfold goesB; simp [hz, hpart, hst]
        simp only [if_pos hst, hg, if_true]
        exact next
       ·have hg : goesB (decide (p = 0)) (s.drop p) = false := by unfold goesB; simp [h00] at hst ⊢; simp [hst]
        simp only [if_neg hst, hg, Bool.false_eq_true, if_false]
        subst h00
        exact Ev.now _
      ·have hg : goesB (decide (p = 0)) (s.drop p) = true := by unfold goesB; simp [hz, hpart, h00]
       simp only [if_neg (show ¬ ((B (s.drop p)).size : Int) = ((B s).size : Int) by rw [B_size, B_size, List.length_drop]; omega), hg, if_true]
       exact next
     ·have hg : goesB (decide (p = 0)) (s.drop p) = false := by unfold goesB; simp [hpart]
      simp only [if_neg hpart, hg, Bool.false_eq_true, if_false]
      exact Ev.now _
   ·have e : s.drop p = [] := List.drop_eq_nil_of_le (by omega)
    have en : nameN (d + 1) (decide (p = 0)) (s.drop p) = 0 := by rw [e]; rfl
    rw [en]
    simp only [if_neg (show ¬ ((B (s.drop p)).size : Int) > 0 by rw [B_size, List.length_drop]; omega)]
    exact Ev.now _
theorem rname_ev (s : Bs) (hs : s.length < 4611686018427387904) : Ev (fun k => broadsheetref05_Name.f k (B s)) (nameRes s (nameL s)) := by
 have := rname_l0 s hs s.length 0 (by omega) (by omega)
 rw [Nat.zero_add] at this
 unfold broadsheetref05_Name.f
 exact this
theorem rplain_l0 (l : Bs) (hl : l.length < 4611686018427387904) : ∀ (d i : Nat), l.length - i ≤ d → i ≤ l.length → Ev (fun k => broadsheetref05_Plain.l0 k (B l) (i : Int)) (noC (l.drop i)) := by
 intro d
 induction d with
 | zero =>
   intro i hd hi
   refine Ev.step (fun k => (show broadsheetref05_Plain.l0 (k + 1) (B l) i = _ from by rw [broadsheetref05_Plain.l0])) ?_
   rw [List.drop_eq_nil_of_le (by omega)]
   simp only [if_neg (show ¬ (i : Int) < ((B l).size : Int) by rw [B_size]; omega)]
   exact Ev.now _
 | succ d ih =>
   intro i hd hi
   refine Ev.step (fun k => (show broadsheetref05_Plain.l0 (k + 1) (B l) i = _ from by rw [broadsheetref05_Plain.l0])) ?_
   by_cases h : i < l.length
   ·have e1 : wrap64 ((i : Int) + 1) = ((i + 1 : Nat) : Int) := by rw [w64 (by omega) (by omega)]; rfl
    rw [List.drop_eq_getElem_cons h]
    simp only [if_pos (show (i : Int) < ((B l).size : Int) by rw [B_size]; omega), if_pos (show (0 : Int) ≤ (i : Int) by omega), bt_val l i h, e1]
    by_cases hc : l[i] = 58
    ·simp only [hc, if_pos (show (((58 : UInt8).toNat : Nat) : Int) = 58 from rfl)]
     exact Ev.now _
    ·simp only [if_neg (show ¬ ((l[i].toNat : Nat) : Int) = 58 from val_ne _ 58 hc)]
     have : noC (l[i] :: l.drop (i + 1)) = noC (l.drop (i + 1)) := by unfold noC; rw [List.all_cons]; simp [hc]
     rw [this]
     exact ih (i + 1) (by omega) (by omega)
   ·rw [List.drop_eq_nil_of_le (by omega)]
    simp only [if_neg (show ¬ (i : Int) < ((B l).size : Int) by rw [B_size]; omega)]
    exact Ev.now _
theorem rplain_ev (s : Bs) (hs : s.length < 4611686018427387904) : Ev (fun k => broadsheetref05_Plain.f k (B s)) (plainB s) := by
 unfold broadsheetref05_Plain.f
 refine Ev.bind (rname_ev s hs) ?_
 have hle := nameL_le s
 unfold plainB
 by_cases h0 : nameL s = 0
 ·rw [nameRes_zero h0]
  simp only [if_neg (show ¬ (51 : Int) = 0 by decide), h0, ne_eq, not_true_eq_false, decide_false, Bool.false_and]
  refine Ev.step (fun k => (show broadsheetref05_Plain.j0 (k + 1) (⟨#[]⟩ : ByteArray) true = _ from by rw [broadsheetref05_Plain.j0])) ?_
  simp only [if_true]
  exact Ev.now _
 ·rw [nameRes_some h0]
  simp only [if_true, ne_eq, h0, not_false_eq_true, decide_true, Bool.true_and, B_toList]
  refine Ev.step (fun k => (show broadsheetref05_Plain.j0 (k + 1) (B (s.take (nameL s))) (s.drop (nameL s) != []) = _ from by rw [broadsheetref05_Plain.j0])) ?_
  by_cases h1 : nameL s = s.length
  ·have e : s.drop (nameL s) = [] := List.drop_eq_nil_of_le (by omega)
   have e2 : s.take (nameL s) = s := List.take_of_length_le (by omega)
   rw [e, e2]
   simp only [bne_self_eq_false, Bool.false_eq_true, if_false, decide_eq_true h1, Bool.true_and]
   have := rplain_l0 s hs s.length 0 (by omega) (by omega)
   rw [List.drop_zero] at this
   exact this
  ·have e : s.drop (nameL s) ≠ [] := by simp; omega
   simp only [bne_iff_ne.2 e, if_true, decide_eq_false h1, Bool.false_and]
   exact Ev.now _
end Go.Proofs.YtadgeghipimfiaaGreatDoor.U
end
section
namespace Go.Proofs.YtadgeghipimfiaaGreatDoor.Pg
open Go.RowKit Go.Proofs.YtadgeghipimfiaaGreatDoorW.PrintWords Go.Proofs.YtadgeghipimfiaaGreatDoorW.PrintLast Go.Proofs.YtadgeghipimfiaaGreatDoorW.PrintMore
open Go.Proofs.YtadgeghipimfiaaGreatDoor.X
set_option linter.unusedVariables false
set_option linter.unusedSimpArgs false
def broadsheetref07_Lower.l0 : Nat → ByteArray → List Int → Int → Option (ByteArray)
 | 0, _, _, _ => none
 | k + 1, x0, x3, x4 => if x4 < (x0.size : Int) then (if 0 ≤ x4 then (if (bt x0 x4) ≥ 65 then (if (bt x0 x4) ≤ 90 then (if x3.length < 140737488355328 then (broadsheetref07_Lower.l0 k x0 (x3 ++ [((bt x0 x4) + 32) % 256]) (wrap64 (x4 + 1))) else (none)) else (if x3.length < 140737488355328 then (broadsheetref07_Lower.l0 k x0 (x3 ++ [bt x0 x4]) (wrap64 (x4 + 1))) else (none))) else (if x3.length < 140737488355328 then (broadsheetref07_Lower.l0 k x0 (x3 ++ [bt x0 x4]) (wrap64 (x4 + 1))) else (none))) else (none)) else (some (strOfNums x3))
def broadsheetref07_Lower.f (k : Nat) (a0 : ByteArray) : Option (ByteArray) := broadsheetref07_Lower.l0 k a0 ([] : List Int) 0
set_option maxHeartbeats 8000000 in
set_option maxRecDepth 100000 in
theorem broadsheetref07_Lower.calls (k : Nat) (a0 : ByteArray) (r : ByteArray) (w : World) (h : broadsheetref07_Lower.f k a0 = some r) :
  Calls Tryz.prog 52 #[.string a0] w fun e w' => e = .returned (.string r) ∧ Below w.heap.size w w' := by
 have HB := Aside0.mk (Below.refl w.heap.size w)
 have H : (broadsheetref07_Lower.l0 k a0 ([] : List Int) 0) = some r := h
 clear h
 have H' := Aside0.mk H
 clear H
 go_enter Tryz.func52, Tryz.ntmps52
 go_wp2
 go_loopg [3, 4] k (fun kq v3 v4 w' => ∃ (x3_1 : List Int) (x4_1 : Int), v4 = .int .i64 x4_1 ∧ Aside0 (broadsheetref07_Lower.l0 kq a0 x3_1 x4_1 = some r) ∧ Aside0 (kq ≤ k) ∧ Aside0 (Kd.R (Kd.int .u8) 5 w' w.heap.size (fun _ => True) v3 x3_1) ∧ Aside0 (Below w.heap.size w w'))
 case atStart => exact ⟨(([] : List Int)), (0), (by first | rfl | (simp; done) | (simp [*]; done) | (simp [xx_ne_nil, xx_eq_nil]; done) | (simp [*, xx_ne_nil, xx_eq_nil]; done)), H', ⟨Nat.le_refl _⟩, ⟨by first | exact Kd.R_nil _ _ _ _ _ | exact Kd.N_nil _ _ _ _ _ | exact Kd.V_nil _ _ _ _ _ | exact Kd.Q_nil _ _ _ _ _ | exact Kd.S_nil _ _ _ _ _⟩, ⟨by repeat (first | (with_reducible first | exact HB.out | apply below_alloc | apply pw_below_drewN | apply below_drew1) | exact HB.out)⟩⟩
 case round =>
  clear H'
  obtain ⟨x3_1, x4_1, rfl, HA, HK1, HO_3, HB⟩ := hrel
  cases gk with
  | zero => exact absurd HA.out (by simp [broadsheetref07_Lower.l0])
  | succ k1 =>
    have H := HA.out
    clear HA
    simp only [broadsheetref07_Lower.l0] at H
    by_cases c2 : x4_1 < (a0.size : Int)
    ·rw [if_pos c2] at H
     have c2b0 : decide (x4_1 < (a0.size : Int)) = true := decide_eq_true c2
     clear c2
     by_cases c3 : 0 ≤ x4_1
     ·rw [if_pos c3] at H
      have c3b0 : decide (0 ≤ x4_1) = true := decide_eq_true c3
      clear c3
      by_cases c5 : (bt a0 x4_1) ≥ 65
      ·rw [if_pos c5] at H
       have c5b0 : decide (65 ≤ (bt a0 x4_1)) = true := decide_eq_true c5
       clear c5
       by_cases c6 : (bt a0 x4_1) ≤ 90
       ·rw [if_pos c6] at H
        have c6b0 : decide ((bt a0 x4_1) ≤ 90) = true := decide_eq_true c6
        clear c6
        by_cases c7 : x3_1.length < 140737488355328
        ·rw [if_pos c7] at H
         have LMc7 := Aside0.mk c7
         clear c7
         obtain ⟨y232, hy232⟩ : ∃ y_ : List Int, y_ = (x3_1 ++ [((bt a0 x4_1) + 32) % 256]) := ⟨_, rfl⟩
         replace H : (broadsheetref07_Lower.l0 k1 a0 y232 (wrap64 (x4_1 + 1))) = some r := by first | (rw [hy232]; with_reducible exact H) | (have H2_ := (Option.bind_some _ _).symm.trans H; rw [hy232]; with_reducible exact H2_) | (have H2_ := (Option.bind_some _ _).symm.trans H; with_reducible exact H2_) | with_reducible exact H | (rw [hy232]; exact H) | exact H
         have Ny232 := Aside0.mk hy232
         clear hy232
         have H' := Aside0.mk H
         clear H
         have p4 : 0 ≤ (x4_1 : Int) := of_decide_eq_true (by first | (with_reducible assumption) | assumption)
         have q4 : x4_1 < (a0.size : Int) := of_decide_eq_true (by first | (with_reducible assumption) | assumption)
         have hx4 := bt_at a0 x4_1
         replace p4 := eq_true p4
         replace q4 := eq_true q4
         go_wp2_with (first | ((with_reducible refine gate_builtin (b := .append) (xs := #[.tmp 23, .tmp 25]) rfl ?_); at_builtin; refine Kd.R_append (Kd.int .u8) (w0 := w) w.heap.size rfl (.tmp 23) (.tmp 25) 42 5 (.int .u8 0) 1 rfl Tryz.underlying42 info5 rfl (by decide) (by omega) u3 x3_1 (((bt a0 x4_1) + 32) % 256) [.int .u8 (((bt a0 x4_1) + 32) % 256)] (fun _ => True) (fun _ => False) rfl rfl ?aP (fun _ hk => hk.elim) ?aF ?aO ?aB ?aS ?aL ?_; (case aP => exact rfl); (case aB => exact (by repeat (first | (with_reducible first | exact HB.out | apply below_alloc | apply pw_below_drewN | apply below_drew1) | exact HB.out))); (case aF => exact (fun _ _ => trivial)); (case aO => exact (by (with_reducible repeat (first | apply Kd.R_alloc | apply Kd.R_drewN | apply Kd.R_drew)); exact HO_3.out)); (case aS => exact (below_size (by repeat (first | (with_reducible first | exact HB.out | apply below_alloc | apply pw_below_drewN | apply below_drew1) | exact HB.out)))); (case aL => have := LMc7.out; omega); intro v233 w8 ho hb hg hat; rw [← Ny232.out] at ho; have n0_ := Aside0.mk (hb); have n1_ := Aside0.mk (ho); clear HB; clear HO_3; have HB := n0_; have HO234 := n1_; clear n0_ n1_; clear ho hb hg hat))
         go_roundg k1
         case measure => have := HK1.out; omega
         case rel => exact ⟨(y232), (wrap64 (x4_1 + 1)), (by first | rfl | (simp; done) | (simp [*]; done) | (simp [xx_ne_nil, xx_eq_nil]; done) | (simp [*, xx_ne_nil, xx_eq_nil]; done)), H', ⟨by have := HK1.out; omega⟩, ⟨by (with_reducible repeat (first | apply Kd.R_alloc | apply Kd.R_drewN | apply Kd.R_drew)); exact HO234.out⟩, ⟨by repeat (first | (with_reducible first | exact HB.out | apply below_alloc | apply pw_below_drewN | apply below_drew1) | exact HB.out)⟩⟩
        ·rw [if_neg c7] at H
         exact absurd H (by simp)
       ·rw [if_neg c6] at H
        have c6b0 : decide ((bt a0 x4_1) ≤ 90) = false := decide_eq_false c6
        clear c6
        by_cases c9 : x3_1.length < 140737488355328
        ·rw [if_pos c9] at H
         have LMc9 := Aside0.mk c9
         clear c9
         obtain ⟨y235, hy235⟩ : ∃ y_ : List Int, y_ = (x3_1 ++ [bt a0 x4_1]) := ⟨_, rfl⟩
         replace H : (broadsheetref07_Lower.l0 k1 a0 y235 (wrap64 (x4_1 + 1))) = some r := by first | (rw [hy235]; with_reducible exact H) | (have H2_ := (Option.bind_some _ _).symm.trans H; rw [hy235]; with_reducible exact H2_) | (have H2_ := (Option.bind_some _ _).symm.trans H; with_reducible exact H2_) | with_reducible exact H | (rw [hy235]; exact H) | exact H
         have Ny235 := Aside0.mk hy235
         clear hy235
         have H' := Aside0.mk H
         clear H
         have p4 : 0 ≤ (x4_1 : Int) := of_decide_eq_true (by first | (with_reducible assumption) | assumption)
         have q4 : x4_1 < (a0.size : Int) := of_decide_eq_true (by first | (with_reducible assumption) | assumption)
         have hx4 := bt_at a0 x4_1
         replace p4 := eq_true p4
         replace q4 := eq_true q4
         go_wp2_with (first | ((with_reducible refine gate_builtin (b := .append) (xs := #[.tmp 23, .tmp 25]) rfl ?_); at_builtin; refine Kd.R_append (Kd.int .u8) (w0 := w) w.heap.size rfl (.tmp 23) (.tmp 25) 42 5 (.int .u8 0) 1 rfl Tryz.underlying42 info5 rfl (by decide) (by omega) u3 x3_1 (bt a0 x4_1) [.int .u8 (bt a0 x4_1)] (fun _ => True) (fun _ => False) rfl rfl ?aP (fun _ hk => hk.elim) ?aF ?aO ?aB ?aS ?aL ?_; (case aP => exact rfl); (case aB => exact (by repeat (first | (with_reducible first | exact HB.out | apply below_alloc | apply pw_below_drewN | apply below_drew1) | exact HB.out))); (case aF => exact (fun _ _ => trivial)); (case aO => exact (by (with_reducible repeat (first | apply Kd.R_alloc | apply Kd.R_drewN | apply Kd.R_drew)); exact HO_3.out)); (case aS => exact (below_size (by repeat (first | (with_reducible first | exact HB.out | apply below_alloc | apply pw_below_drewN | apply below_drew1) | exact HB.out)))); (case aL => have := LMc9.out; omega); intro v236 w10 ho hb hg hat; rw [← Ny235.out] at ho; have n0_ := Aside0.mk (hb); have n1_ := Aside0.mk (ho); clear HB; clear HO_3; have HB := n0_; have HO237 := n1_; clear n0_ n1_; clear ho hb hg hat))
         go_roundg k1
         case measure => have := HK1.out; omega
         case rel => exact ⟨(y235), (wrap64 (x4_1 + 1)), (by first | rfl | (simp; done) | (simp [*]; done) | (simp [xx_ne_nil, xx_eq_nil]; done) | (simp [*, xx_ne_nil, xx_eq_nil]; done)), H', ⟨by have := HK1.out; omega⟩, ⟨by (with_reducible repeat (first | apply Kd.R_alloc | apply Kd.R_drewN | apply Kd.R_drew)); exact HO237.out⟩, ⟨by repeat (first | (with_reducible first | exact HB.out | apply below_alloc | apply pw_below_drewN | apply below_drew1) | exact HB.out)⟩⟩
        ·rw [if_neg c9] at H
         exact absurd H (by simp)
      ·rw [if_neg c5] at H
       have c5b0 : decide (65 ≤ (bt a0 x4_1)) = false := decide_eq_false c5
       clear c5
       by_cases c11 : x3_1.length < 140737488355328
       ·rw [if_pos c11] at H
        have LMc11 := Aside0.mk c11
        clear c11
        obtain ⟨y238, hy238⟩ : ∃ y_ : List Int, y_ = (x3_1 ++ [bt a0 x4_1]) := ⟨_, rfl⟩
        replace H : (broadsheetref07_Lower.l0 k1 a0 y238 (wrap64 (x4_1 + 1))) = some r := by first | (rw [hy238]; with_reducible exact H) | (have H2_ := (Option.bind_some _ _).symm.trans H; rw [hy238]; with_reducible exact H2_) | (have H2_ := (Option.bind_some _ _).symm.trans H; with_reducible exact H2_) | with_reducible exact H | (rw [hy238]; exact H) | exact H
        have Ny238 := Aside0.mk hy238
        clear hy238
        have H' := Aside0.mk H
        clear H
        have p4 : 0 ≤ (x4_1 : Int) := of_decide_eq_true (by first | (with_reducible assumption) | assumption)
        have q4 : x4_1 < (a0.size : Int) := of_decide_eq_true (by first | (with_reducible assumption) | assumption)
        have hx4 := bt_at a0 x4_1
        replace p4 := eq_true p4
        replace q4 := eq_true q4
        go_wp2_with (first | ((with_reducible refine gate_builtin (b := .append) (xs := #[.tmp 23, .tmp 25]) rfl ?_); at_builtin; refine Kd.R_append (Kd.int .u8) (w0 := w) w.heap.size rfl (.tmp 23) (.tmp 25) 42 5 (.int .u8 0) 1 rfl Tryz.underlying42 info5 rfl (by decide) (by omega) u3 x3_1 (bt a0 x4_1) [.int .u8 (bt a0 x4_1)] (fun _ => True) (fun _ => False) rfl rfl ?aP (fun _ hk => hk.elim) ?aF ?aO ?aB ?aS ?aL ?_; (case aP => exact rfl); (case aB => exact (by repeat (first | (with_reducible first | exact HB.out | apply below_alloc | apply pw_below_drewN | apply below_drew1) | exact HB.out))); (case aF => exact (fun _ _ => trivial)); (case aO => exact (by (with_reducible repeat (first | apply Kd.R_alloc | apply Kd.R_drewN | apply Kd.R_drew)); exact HO_3.out)); (case aS => exact (below_size (by repeat (first | (with_reducible first | exact HB.out | apply below_alloc | apply pw_below_drewN | apply below_drew1) | exact HB.out)))); (case aL => have := LMc11.out; omega); intro v239 w12 ho hb hg hat; rw [← Ny238.out] at ho; have n0_ := Aside0.mk (hb); have n1_ := Aside0.mk (ho); clear HB; clear HO_3; have HB := n0_; have HO240 := n1_; clear n0_ n1_; clear ho hb hg hat))
        go_roundg k1
        case measure => have := HK1.out; omega
        case rel => exact ⟨(y238), (wrap64 (x4_1 + 1)), (by first | rfl | (simp; done) | (simp [*]; done) | (simp [xx_ne_nil, xx_eq_nil]; done) | (simp [*, xx_ne_nil, xx_eq_nil]; done)), H', ⟨by have := HK1.out; omega⟩, ⟨by (with_reducible repeat (first | apply Kd.R_alloc | apply Kd.R_drewN | apply Kd.R_drew)); exact HO240.out⟩, ⟨by repeat (first | (with_reducible first | exact HB.out | apply below_alloc | apply pw_below_drewN | apply below_drew1) | exact HB.out)⟩⟩
       ·rw [if_neg c11] at H
        exact absurd H (by simp)
     ·rw [if_neg c3] at H
      exact absurd H (by simp)
    ·rw [if_neg c2] at H
     have c2b0 : decide (x4_1 < (a0.size : Int)) = false := decide_eq_false c2
     clear c2
     obtain rfl := Option.some.inj H
     have hcv13 := own_string (P := Tryz.prog) Tryz.underlying42 Tryz.underlying5 Tryz.underlying9 (Kd.own_of_R HO_3.out)
     go_wp2
     go_ret
     exact ⟨by first | rfl | (simp [errW_none, errW_some] <;> rfl) | (simp [*, errW_none, errW_some] <;> rfl), by repeat (first | (with_reducible first | exact HB.out | apply below_alloc | apply pw_below_drewN | apply below_drew1) | exact HB.out)⟩
def broadsheetref05_Space.f (a0 : Int) : Option (Bool) := if a0 = 32 then (some true) else (if a0 = 9 then (some true) else (if a0 = 10 then (some true) else (some (a0 == 13))))
set_option maxHeartbeats 8000000 in
set_option maxRecDepth 100000 in
theorem broadsheetref05_Space.calls (a0 : Int) (r : Bool) (w : World) (h : broadsheetref05_Space.f a0 = some r) :
  Calls Tryz.prog 85 #[.int .i64 a0] w fun e w' => e = .returned (.bool r) ∧ Drawn0 w w' := by
 have H : (if a0 = 32 then (some true) else (if a0 = 9 then (some true) else (if a0 = 10 then (some true) else (some (a0 == 13))))) = some r := h
 clear h
 by_cases c2 : a0 = 32
 ·rw [if_pos c2] at H
  have c2b0 : (a0 == 32) = true := beq_iff_eq.mpr c2
  have c2b1 : (a0 != 32) = false := bne_eq_false_iff_eq.mpr c2
  clear c2
  obtain rfl := Option.some.inj H
  go_enter Tryz.func85, Tryz.ntmps85
  go_wp2
  go_ret
  exact ⟨by first | rfl | (simp; done) | (simp [*]; done) | (simp [xx_ne_nil, xx_eq_nil]; done) | (simp [*, xx_ne_nil, xx_eq_nil]; done), by repeat (first | exact Drawn0.refl _ | apply Drawn0.step)⟩
 ·rw [if_neg c2] at H
  have c2b0 : (a0 == 32) = false := beq_eq_false_iff_ne.mpr c2
  have c2b1 : (a0 != 32) = true := bne_iff_ne.mpr c2
  by_cases c3 : a0 = 9
  ·rw [if_pos c3] at H
   have c3b0 : (a0 == 9) = true := beq_iff_eq.mpr c3
   have c3b1 : (a0 != 9) = false := bne_eq_false_iff_eq.mpr c3
   clear c3
   obtain rfl := Option.some.inj H
   go_enter Tryz.func85, Tryz.ntmps85
   go_wp2
   go_ret
   exact ⟨by first | rfl | (simp; done) | (simp [*]; done) | (simp [xx_ne_nil, xx_eq_nil]; done) | (simp [*, xx_ne_nil, xx_eq_nil]; done), by repeat (first | exact Drawn0.refl _ | apply Drawn0.step)⟩
  ·rw [if_neg c3] at H
   have c3b0 : (a0 == 9) = false := beq_eq_false_iff_ne.mpr c3
   have c3b1 : (a0 != 9) = true := bne_iff_ne.mpr c3
   by_cases c4 : a0 = 10
   ·rw [if_pos c4] at H
    have c4b0 : (a0 == 10) = true := beq_iff_eq.mpr c4
    have c4b1 : (a0 != 10) = false := bne_eq_false_iff_eq.mpr c4
    clear c4
    obtain rfl := Option.some.inj H
    go_enter Tryz.func85, Tryz.ntmps85
    go_wp2
    go_ret
    exact ⟨by first | rfl | (simp; done) | (simp [*]; done) | (simp [xx_ne_nil, xx_eq_nil]; done) | (simp [*, xx_ne_nil, xx_eq_nil]; done), by repeat (first | exact Drawn0.refl _ | apply Drawn0.step)⟩
   ·rw [if_neg c4] at H
    have c4b0 : (a0 == 10) = false := beq_eq_false_iff_ne.mpr c4
    have c4b1 : (a0 != 10) = true := bne_iff_ne.mpr c4
    obtain rfl := Option.some.inj H
    go_enter Tryz.func85, Tryz.ntmps85
    go_wp2
    go_ret
    exact ⟨by first | rfl | (simp; done) | (simp [*]; done) | (simp [xx_ne_nil, xx_eq_nil]; done) | (simp [*, xx_ne_nil, xx_eq_nil]; done), by repeat (first | exact Drawn0.refl _ | apply Drawn0.step)⟩
def broadsheetref05_Skip.l0 : Nat → ByteArray → Option (ByteArray)
 | 0, _ => none
 | k + 1, x0 => if (x0.size : Int) > 0 then (if 0 < (x0.size : Int) then ((broadsheetref05_Space.f (wrap64 (bt x0 0))).bind fun t241 => (if t241 = true then (if 1 ≤ (x0.size : Int) then (broadsheetref05_Skip.l0 k (x0.extract 1 x0.size)) else (none)) else (some x0))) else (none)) else (some x0)
def broadsheetref05_Skip.f (k : Nat) (a0 : ByteArray) : Option (ByteArray) := broadsheetref05_Skip.l0 k a0
set_option maxHeartbeats 8000000 in
set_option maxRecDepth 100000 in
theorem broadsheetref05_Skip.calls (k : Nat) (a0 : ByteArray) (r : ByteArray) (w : World) (h : broadsheetref05_Skip.f k a0 = some r) :
  Calls Tryz.prog 53 #[.string a0] w fun e w' => e = .returned (.string r) ∧ Drawn0 w w' := by
 have H : (broadsheetref05_Skip.l0 k a0) = some r := h
 clear h
 have H' := Aside0.mk H
 clear H
 go_enter Tryz.func53, Tryz.ntmps53
 go_wp2
 go_loopg [0] k (fun kq v0 w' => ∃ (x0_1 : ByteArray), v0 = .string x0_1 ∧ Aside0 (broadsheetref05_Skip.l0 kq x0_1 = some r) ∧ Aside0 (kq ≤ k) ∧ Drawn0 w w')
 case atStart => exact ⟨(a0), (by first | rfl | (simp; done) | (simp [*]; done) | (simp [xx_ne_nil, xx_eq_nil]; done) | (simp [*, xx_ne_nil, xx_eq_nil]; done)), H', ⟨Nat.le_refl _⟩, by repeat (first | exact Drawn0.refl _ | apply Drawn0.step)⟩
 case round =>
  clear H'
  obtain ⟨x0_1, rfl, HA, HK1, ⟨m1, rfl⟩⟩ := hrel
  cases gk with
  | zero => exact absurd HA.out (by simp [broadsheetref05_Skip.l0])
  | succ k1 =>
    have H := HA.out
    clear HA
    simp only [broadsheetref05_Skip.l0] at H
    by_cases c2 : (x0_1.size : Int) > 0
    ·rw [if_pos c2] at H
     have c2b0 : decide (0 < (x0_1.size : Int)) = true := decide_eq_true c2
     have c2b1 : decide (0 < x0_1.size) = true := decide_eq_true (by omega)
     clear c2
     by_cases c3 : 0 < (x0_1.size : Int)
     ·rw [if_pos c3] at H
      have c3b0 : decide (0 < (x0_1.size : Int)) = true := decide_eq_true c3
      have c3b1 : decide (0 < x0_1.size) = true := decide_eq_true (by omega)
      clear c3
      replace H := Option.bind_eq_some_iff.mp H
      obtain ⟨t241, A50, H⟩ := H
      replace H : (if t241 = true then (if 1 ≤ (x0_1.size : Int) then (broadsheetref05_Skip.l0 k1 (x0_1.extract 1 x0_1.size)) else (none)) else (some x0_1)) = some r := H
      have A5 := Aside0.mk A50
      clear A50
      by_cases c6 : t241 = true
      ·subst c6
       have H1 : (if 1 ≤ (x0_1.size : Int) then (broadsheetref05_Skip.l0 k1 (x0_1.extract 1 x0_1.size)) else (none)) = some r := by rw [if_pos rfl] at H; exact H
       clear H
       have H := H1
       clear H1
       by_cases c7 : 1 ≤ (x0_1.size : Int)
       ·rw [if_pos c7] at H
        have c7b0 := eq_true c7
        have c7b1 : decide (1 ≤ (x0_1.size : Int)) = true := decide_eq_true c7
        clear c7
        have H' := Aside0.mk H
        clear H
        have p4 : 0 ≤ (0 : Int) := (by omega)
        have q4 : 0 < x0_1.size := (by have : (0 : Int) < (x0_1.size : Int) := of_decide_eq_true (by first | (with_reducible assumption) | assumption); omega)
        have hx4 : ∀ h : 0 < x0_1.size, ((x0_1[0]'h).toNat : Int) = bt x0_1 0 := bt_at x0_1 0
        clear p4
        have qi4 : (0 < (x0_1.size : Int)) = True := eq_true (of_decide_eq_true (by first | (with_reducible assumption) | assumption))
        replace q4 := eq_true q4
        go_wp2_with (first | (go_at_call 85; (with_reducible refine (broadsheetref05_Space.calls (wrap64 (bt x0_1 0)) true _ A5.out).mono ?_); rintro e w' ⟨rfl, ⟨nd, rfl⟩⟩))
        go_roundg k1
        case measure => have := HK1.out; omega
        case rel => exact ⟨(x0_1.extract 1 x0_1.size), (by first | rfl | (simp; done) | (simp [*]; done) | (simp [xx_ne_nil, xx_eq_nil]; done) | (simp [*, xx_ne_nil, xx_eq_nil]; done)), H', ⟨by have := HK1.out; omega⟩, by repeat (first | exact Drawn0.refl _ | apply Drawn0.step)⟩
       ·rw [if_neg c7] at H
        exact absurd H (by simp)
      ·replace c6 := Bool.eq_false_iff.mpr c6
       subst c6
       have H1 : (some x0_1) = some r := by rw [if_neg (show ¬ (false = true) by decide)] at H; exact H
       clear H
       have H := H1
       clear H1
       obtain rfl := Option.some.inj H
       have p4 : 0 ≤ (0 : Int) := (by omega)
       have q4 : 0 < x0_1.size := (by have : (0 : Int) < (x0_1.size : Int) := of_decide_eq_true (by first | (with_reducible assumption) | assumption); omega)
       have hx4 : ∀ h : 0 < x0_1.size, ((x0_1[0]'h).toNat : Int) = bt x0_1 0 := bt_at x0_1 0
       clear p4
       have qi4 : (0 < (x0_1.size : Int)) = True := eq_true (of_decide_eq_true (by first | (with_reducible assumption) | assumption))
       replace q4 := eq_true q4
       go_wp2_with (first | (go_at_call 85; (with_reducible refine (broadsheetref05_Space.calls (wrap64 (bt x0_1 0)) false _ A5.out).mono ?_); rintro e w' ⟨rfl, ⟨nd, rfl⟩⟩))
       go_ret
       exact ⟨by first | rfl | (simp; done) | (simp [*]; done) | (simp [xx_ne_nil, xx_eq_nil]; done) | (simp [*, xx_ne_nil, xx_eq_nil]; done), by repeat (first | exact Drawn0.refl _ | apply Drawn0.step)⟩
     ·rw [if_neg c3] at H
      exact absurd H (by simp)
    ·rw [if_neg c2] at H
     have c2b0 : decide (0 < (x0_1.size : Int)) = false := decide_eq_false c2
     have c2b1 : decide (0 < x0_1.size) = false := decide_eq_false (by omega)
     clear c2
     obtain rfl := Option.some.inj H
     go_wp2
     go_ret
     exact ⟨by first | rfl | (simp; done) | (simp [*]; done) | (simp [xx_ne_nil, xx_eq_nil]; done) | (simp [*, xx_ne_nil, xx_eq_nil]; done), by repeat (first | exact Drawn0.refl _ | apply Drawn0.step)⟩
end Go.Proofs.YtadgeghipimfiaaGreatDoor.Pg
end
